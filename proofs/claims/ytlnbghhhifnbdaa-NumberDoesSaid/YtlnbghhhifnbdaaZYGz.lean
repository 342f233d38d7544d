/- Contract of the reference's Do of layer 29. Conditions: the lists read as the given ones, the block is right. -/
import Derived.Test.YtlnbghhhifnbdaaZYNz
import Derived.Test.YtlnbghhhifnbdaaZYMb
import Derived.Test.YtlnbghhhifnbdaaZYQe
import Derived.Deep.RegionLaw
namespace Go.Proofs.Ytlnbghhhifnbdaa
open Go.RowKit Go.Proofs.YtlnbghhhifnbdaaW.PrintWords Go.Proofs.YtlnbghhhifnbdaaW.PrintLast Go.Proofs.YtlnbghhhifnbdaaW.PrintMore Go.Proofs.Ytlnbghhhifnbdaa.PNumberDoes
set_option linter.unusedVariables false
set_option linter.unusedSimpArgs false

def exR (tv : List Int) (x : S64) : S64 := ⟨x.f0, x.f1, if x.f2 = -1 then -1 else rd tv x.f2, x.f3, x.f4.map (fun v => ⟨v.f0, rd tv v.f1⟩)⟩
theorem exR_of (tv : List Int) (x : S64) : exitOf (exR tv x) = exN tv (exitOf x) := by
 unfold exitOf exR exN
 simp only [List.map_map]
 rfl
theorem exits_l1 (es : List S64) (tv : List Int) (out : List S64) (ho : out.length ≤ 1000) (i : Nat) (hi : i < es.length) (a b c d : Int) (hm : es[i].f4.length ≤ 100) (hv : ∀ v ∈ es[i].f4, 0 ≤ v.f1 ∧ v.f1 < (tv.length : Int)) (hE : es.length ≤ 1000) (r : Nat) : ∀ (m j : Nat), j + m = es[i].f4.length →
  mimesisref28_Exits.l1 (r + m + 1) es tv out (i : Int) (j : Int) a b c d ((es[i].f4.take j).map (fun v => (⟨v.f0, rd tv v.f1⟩ : S84))) = mimesisref28_Exits.l0 r es tv (out ++ [⟨a, b, c, d, es[i].f4.map (fun v => ⟨v.f0, rd tv v.f1⟩)⟩]) ((i + 1 : Nat) : Int) := by
 have hq : qj es (i : Int) = es[i] := by simp [qj, hi]
 intro m
 induction m with
 | zero =>
  intro j hj
  rw [mimesisref28_Exits.l1, hq, if_pos (by omega), if_pos (by omega), if_neg (by omega), if_pos (by omega), w64n i (by omega), List.take_of_length_le (by omega)]
 | succ m ih =>
  intro j hj
  have hlt : j < es[i].f4.length := by omega
  have hy : qD es[i].f4 (j : Int) = es[i].f4[j] := by simp [qD, hlt]
  obtain ⟨h1, h2⟩ := hv _ (List.getElem_mem hlt)
  rw [show r + (m + 1) + 1 = (r + m + 1) + 1 by omega, mimesisref28_Exits.l1, hq, hy, if_pos (by omega), if_pos (by omega), if_pos (by omega), if_pos (by omega), if_pos h1, if_pos h2, if_pos (by simp; omega), w64n j (by omega), ← ih (j + 1) (by omega), List.take_succ_eq_append_getElem hlt, List.map_append]
  rfl
theorem exits_l0 (es : List S64) (tv : List Int) (hE : es.length ≤ 1000) (hm : ∀ x ∈ es, x.f4.length ≤ 100) (ht : ∀ x ∈ es, x.f2 = -1 ∨ (0 ≤ x.f2 ∧ x.f2 < (tv.length : Int))) (hv : ∀ x ∈ es, ∀ v ∈ x.f4, 0 ≤ v.f1 ∧ v.f1 < (tv.length : Int)) : ∀ (n i r : Nat), i + n = es.length → n * 104 < r →
  mimesisref28_Exits.l0 r es tv ((es.take i).map (exR tv)) (i : Int) = some (es.map (exR tv)) := by
 intro n
 induction n with
 | zero =>
  intro i r hi hr
  obtain ⟨r, rfl⟩ : ∃ q, r = q + 1 := ⟨r - 1, by omega⟩
  rw [mimesisref28_Exits.l0, if_neg (by omega), List.take_of_length_le (by omega)]
 | succ n ih =>
  intro i r hi hr
  have hlt : i < es.length := by omega
  have hx := List.getElem_mem hlt
  have hml := hm _ hx
  have hq : qj es (i : Int) = es[i] := by simp [qj, hlt]
  obtain ⟨r', rfl⟩ : ∃ q, r = q + es[i].f4.length + 1 + 1 + 1 := ⟨r - es[i].f4.length - 3, by omega⟩
  have hl1 := fun c => exits_l1 es tv ((es.take i).map (exR tv)) (by simp; omega) i hlt es[i].f0 es[i].f1 c es[i].f3 hml (hv _ hx) hE r' es[i].f4.length 0 (by omega)
  have hn := ih (i + 1) r' (by omega) (by omega)
  rw [List.take_succ_eq_append_getElem hlt, List.map_append] at hn
  rw [mimesisref28_Exits.l0, hq, if_pos (by omega), if_pos (by omega)]
  by_cases h2 : es[i].f2 = -1
  ·rw [if_pos h2, mimesisref28_Exits.j1]
   refine (hl1 _).trans ?_
   rw [← hn]
   congr 3
   unfold exR
   rw [if_pos h2, h2]
  ·obtain ⟨a1, a2⟩ := (ht _ hx).resolve_left h2
   rw [if_neg h2, if_pos a1, if_pos a2, mimesisref28_Exits.j1]
   refine (hl1 _).trans ?_
   rw [← hn]
   congr 3
   unfold exR
   rw [if_neg h2]
theorem exits_f (es : List S64) (tv : List Int) (hE : es.length ≤ 200) (hm : ∀ x ∈ es, x.f4.length ≤ 100) (ht : ∀ x ∈ es, x.f2 = -1 ∨ (0 ≤ x.f2 ∧ x.f2 < (tv.length : Int))) (hv : ∀ x ∈ es, ∀ v ∈ x.f4, 0 ≤ v.f1 ∧ v.f1 < (tv.length : Int)) : mimesisref28_Exits.f 30000 es tv = some (es.map (exR tv)) :=
 exits_l0 es tv (by omega) hm ht hv es.length 0 30000 (by omega) (by omega)
theorem rexits_c (A A' : Option Addr) (c c' : Nat) (es : List S64) (tv : List Int) (hE : es.length ≤ 200) (hm : ∀ x ∈ es, x.f4.length ≤ 100) (ht : ∀ x ∈ es, x.f2 = -1 ∨ (0 ≤ x.f2 ∧ x.f2 < (tv.length : Int))) (hv : ∀ x ∈ es, ∀ v ∈ x.f4, 0 ≤ v.f1 ∧ v.f1 < (tv.length : Int)) (hc : es.length ≤ c) (hc' : tv.length ≤ c') (w : World) (hC : k64.C w A es.length es) (hC' : (Kd.int .i64).C w A' tv.length tv) :
  Calls Try.prog 64 #[.slice A es.length c, .slice A' tv.length c'] w fun e w' => (∃ B b, e = .returned (.slice B es.length b) ∧ Hid (Kd.R k64 64 w' w.heap.size (fun _ => True) (.slice B es.length b) (es.map (exR tv)))) ∧ Below w.heap.size w w' := by
 refine (mimesisref28_Exits.calls 30000 A c es A' c' tv _ w hC hc hC' hc' (exits_f es tv hE hm ht hv)).mono ?_
 rintro e w' ⟨v, rfl, hs, hb⟩
 have hr := Kd.S_R hs
 obtain ⟨B, b, rfl⟩ := Kd.R_slice hr
 rw [List.length_map] at hr ⊢
 exact ⟨⟨B, b, rfl, Lib.hid hr⟩, hb⟩
end Go.Proofs.Ytlnbghhhifnbdaa

namespace Go.Proofs.Ytlnbghhhifnbdaa
open Go.RowKit Go.Proofs.YtlnbghhhifnbdaaW.PrintWords Go.Proofs.YtlnbghhhifnbdaaW.PrintLast Go.Proofs.YtlnbghhhifnbdaaW.PrintMore Go.Proofs.Ytlnbghhhifnbdaa.PNumberDoes
set_option linter.unusedVariables false
set_option linter.unusedSimpArgs false

theorem infoIntR : (Try.prog.info? 3).map (fun i => (i.zero, i.size, i.bytes)) = some (some (.int .i64 0), 1, 8) := by kernel_rfl
structure RdSt (w wr : World) (a0 a1 a2 : Value) (last : Int) : Prop where
 b0 : wr.heap[w.heap.size]? = some (.cells #[a0, a1, a2, .int .i64 last] 26 (0, 0))
 b1 : wr.heap[w.heap.size + 1]? = some (.cells #[.slice none 0 0, .slice none 0 0, .slice none 0 0, .int .i64 0] 26 (0, 0))
 bel : Below w.heap.size w wr
section
variable {w wr w1 : World} {a0 a1 a2 u : Value} {last : Int}
theorem RdSt.c0 (h : RdSt w wr a0 a1 a2 last) : wr.cell? ⟨w.heap.size, 0, none⟩ = some a0 := by rw [qb h.b0]; rfl
theorem RdSt.c1 (h : RdSt w wr a0 a1 a2 last) : wr.cell? ⟨w.heap.size, 1, none⟩ = some a1 := by rw [qb h.b0]; rfl
theorem RdSt.c2 (h : RdSt w wr a0 a1 a2 last) : wr.cell? ⟨w.heap.size, 2, none⟩ = some a2 := by rw [qb h.b0]; rfl
theorem RdSt.c3 (h : RdSt w wr a0 a1 a2 last) : wr.cell? ⟨w.heap.size, 3, none⟩ = some (.int .i64 last) := by rw [qb h.b0]; rfl
theorem RdSt.d0 (h : RdSt w wr a0 a1 a2 last) : wr.cell? ⟨w.heap.size + 1, 0, none⟩ = some (.slice none 0 0) := by rw [qb h.b1]; rfl
theorem RdSt.d1 (h : RdSt w wr a0 a1 a2 last) : wr.cell? ⟨w.heap.size + 1, 1, none⟩ = some (.slice none 0 0) := by rw [qb h.b1]; rfl
theorem RdSt.d2 (h : RdSt w wr a0 a1 a2 last) : wr.cell? ⟨w.heap.size + 1, 2, none⟩ = some (.slice none 0 0) := by rw [qb h.b1]; rfl
theorem RdSt.d3 (h : RdSt w wr a0 a1 a2 last) : wr.cell? ⟨w.heap.size + 1, 3, none⟩ = some (.int .i64 0) := by rw [qb h.b1]; rfl
theorem RdSt.f (h : RdSt w wr a0 a1 a2 last) (i : Nat) : wr.frozen? ⟨w.heap.size + 1, i, none⟩ = false := qa h.b1 i
theorem RdSt.lt (h : RdSt w wr a0 a1 a2 last) : w.heap.size + 1 < wr.heap.size := qJ h.b1
theorem RdSt.below (h : RdSt w wr a0 a1 a2 last) (hb : Below wr.heap.size wr w1) : RdSt w w1 a0 a1 a2 last := ⟨qo h.b0 hb, qo h.b1 hb, bthen h.bel hb⟩
theorem RdSt.over {α : Type} {d : Kd α} {e : Nat} {ok : Nat → Prop} {xs : List α} (h : RdSt w wr a0 a1 a2 last) (hr : d.R e wr w.heap.size ok u xs) (h1 : e ≠ 26) (hg : wr.grownBy w1 u.ownBlock) (hb : Below w.heap.size w w1) : RdSt w w1 a0 a1 a2 last := by
 have b : some w.heap.size ≠ u.ownBlock := Kd.R_ne hr h.b0 h1
 have c : some (w.heap.size + 1) ≠ u.ownBlock := Kd.R_ne hr h.b1 h1
 exact ⟨blk_grown h.b0 hg b, blk_grown h.b1 hg c, hb⟩
end
theorem bk_of (l : List S66) : (l.map opBk).map opOf = l := by
 rw [List.map_map]
 exact List.map_id'' (fun x => rfl) l
theorem stepN_op' (l : List S66) (tv : List Int) (o : S66) : stepN alikeB (l, tv) o = (if 0 ≤ (fndR alikeB (nmO tv o) l).2 then (l, tv ++ [(fndR alikeB (nmO tv o) l).2]) else (l ++ [nmO tv o], tv ++ [(l.length : Int)])) := rfl
theorem runN_step (ops : List S59) (k : Nat) (h : k < ops.length) (l : List S66) (tv : List Int) (hP : runN alikeB ((ops.map opOf).take k) = (l, tv)) : runN alikeB ((ops.map opOf).take (k + 1)) = stepN alikeB (l, tv) (opOf ops[k]) := by
 rw [runN_take alikeB (ops.map opOf) k (by simpa using h), hP, List.getElem_map]
set_option maxHeartbeats 8000000 in
set_option maxRecDepth 100000 in
theorem rdo_c (A0 A1 A2 : Option Addr) (c0 c1 c2 : Nat) (last : Int) (pcs : List Int) (ops : List S59) (exits : List S64) (hL : lightB pcs ops exits = true) (hK : checkB (blkOf pcs ops exits last) = 0) (w : World) (h : ArgB w A0 A1 A2 c0 c1 c2 pcs ops exits) :
  Calls Try.prog 29 #[.agg #[.slice A0 pcs.length c0, .slice A1 ops.length c1, .slice A2 exits.length c2, .int .i64 last]] w fun e w' => (∃ v, e = .returned v ∧ AggB pcs.length (runN alikeB (ops.map opOf)).1.length exits.length pcs ((runN alikeB (ops.map opOf)).1.map opBk) (exits.map (exR (runN alikeB (ops.map opOf)).2)) last v w') ∧ Below w.heap.size w w' := by
 obtain ⟨lm0, lm1, lm2, lm3, -⟩ := light_maps pcs ops exits hL
 have hR := rightN_of hK
 have hlo : ops.length ≤ 512 := by have := hR.lo; rw [show (blkOf pcs ops exits last).ops = ops.map opOf from rfl, List.length_map] at this; exact this
 have HOP := Lib.hid (fun (k : Nat) (hk : k < ops.length) => (⟨hR.code k (opOf ops[k]) (by rw [show (blkOf pcs ops exits last).ops = ops.map opOf from rfl, List.getElem?_map, List.getElem?_eq_getElem hk]; rfl), hR.ops k (opOf ops[k]) (by rw [show (blkOf pcs ops exits last).ops = ops.map opOf from rfl, List.getElem?_map, List.getElem?_eq_getElem hk]; rfl)⟩ : (1 ≤ ops[k].f0 ∧ ops[k].f0 ≤ 6) ∧ (ops[k].f0 = 3 ∨ ops[k].f0 = 4 ∨ ops[k].f0 = 5 ∨ ops[k].f0 = 6 → 0 ≤ ops[k].f1 ∧ ops[k].f1 < (k : Int)) ∧ (ops[k].f0 = 3 ∨ ops[k].f0 = 5 ∨ ops[k].f0 = 6 → 0 ≤ ops[k].f2 ∧ ops[k].f2 < (k : Int))))
 have HTO := Lib.hid (show ∀ x ∈ exits, (x.f2 = -1 ∨ (0 ≤ x.f2 ∧ x.f2 < (ops.length : Int))) ∧ ∀ v ∈ x.f4, 0 ≤ v.f1 ∧ v.f1 < (ops.length : Int) from fun x hx => by
  obtain ⟨n, hn, rfl⟩ := List.getElem_of_mem hx
  have e : (blkOf pcs ops exits last).exits[n]? = some (exitOf exits[n]) := by rw [show (blkOf pcs ops exits last).exits = exits.map exitOf from rfl, List.getElem?_map, List.getElem?_eq_getElem hn]; rfl
  have e2 : (blkOf pcs ops exits last).ops.length = ops.length := List.length_map _
  have t1 := hR.tv n _ e
  have t2 := hR.map n _ e
  rw [e2] at t1 t2
  exact ⟨t1, fun v hv => t2 (valOf v) (List.mem_map_of_mem hv)⟩)
 have HC0 := Lib.hid h.C0
 have HC1 := Lib.hid h.C1
 have HC2 := Lib.hid h.C2
 have hl1 := h.l1
 have hl2 := h.l2
 have HM := Lib.hid lm3
 clear h hR hK hL lm3
 go_enter Try.func29, Try.ntmps29
 go_wp2
 go_loopw [3, 4, 5] (fun vl vt i wr => ∃ k : Nat, k ≤ ops.length ∧ i = .int .i64 k ∧ ∃ l tv, Hid (runN alikeB ((ops.map opOf).take k) = (l, tv)) ∧ Hid (RdSt w wr (.slice A0 pcs.length c0) (.slice A1 ops.length c1) (.slice A2 exits.length c2) last) ∧ Hid (Kd.R k59 59 wr w.heap.size (fun _ => True) vl (l.map opBk)) ∧ Hid (Kd.R (Kd.int .i64) 3 wr w.heap.size (fun _ => True) vt tv)) (fun _ _ i _ => ops.length - (intOf i).toNat)
 case atStart =>
  refine ⟨0, Nat.zero_le _, rfl, [], [], Lib.hid rfl, Lib.hid ⟨?_, ?_, ?_⟩, Lib.hid ?_, Lib.hid ?_⟩
  ·exact qh (qh (qh (blk_new _ _) _) _) _
  ·exact qh (qh (by simpa using blk_new (w.alloc _) _) _) _
  ·exact bal (bal (bal (bal (Below.refl _ _) _) _) _) _
  ·refine Kd.R_alloc ?_ _
   have := R_empty k59 59 w.heap.size ((w.alloc (.cells #[.slice A0 pcs.length c0, .slice A1 ops.length c1, .slice A2 exits.length c2, .int .i64 last] 26)).alloc (.cells #[.slice none 0 0, .slice none 0 0, .slice none 0 0, .int .i64 0] 26)) (by simp; omega)
   simpa using this
  ·have := R_empty (Kd.int .i64) 3 w.heap.size (((w.alloc (.cells #[.slice A0 pcs.length c0, .slice A1 ops.length c1, .slice A2 exits.length c2, .int .i64 last] 26)).alloc (.cells #[.slice none 0 0, .slice none 0 0, .slice none 0 0, .int .i64 0] 26)).alloc (.cells #[] 59)) (by simp; omega)
   simpa using this
 case round =>
  obtain ⟨k, hk, rfl, l, tv, HP, HS, HL, HT⟩ := hrel
  have e1 := HS.out.c1
  have hlt0 := HS.out.lt
  have hn0 : ¬ w.heap.size = wr.heap.size := by omega
  have hn1 : ¬ w.heap.size + 1 = wr.heap.size := by omega
  have hlen := runN_len alikeB ((ops.map opOf).take k)
  rw [HP.out] at hlen
  simp only [List.length_take, List.length_map, Nat.min_eq_left hk] at hlen
  obtain ⟨ht1, ht2, ht3⟩ := hlen
  by_cases hlt : k < ops.length
  ·obtain ⟨ad, rfl, d0, d1, d2, d3, d4, d5⟩ := at_T59 (Kd.qp HC1.out HS.out.bel) (k : Int) (by omega) (by omega)
   have hq : ql ops (k : Int) = ops[k] := by simp [ql, hlt]
   obtain ⟨⟨k1, k2⟩, n1, n2⟩ := HOP.out k hlt
   have HSTEP := Lib.hid ((runN_step ops k hlt l tv HP.out).trans (stepN_op' l tv (opOf ops[k])))
   rw [← hq] at HSTEP k1 k2 n1 n2
   simp only [Int.toNat_natCast] at d0 d1 d2 d3 d4 d5
   clear hq
   generalize ql ops (k : Int) = o at *
   obtain ⟨AL, cl, hvl, hcl, hCL⟩ := Kd.qP HL.out
   rw [List.length_map] at hvl
   subst hvl
   obtain ⟨AT, ct, rfl, hct, hCT⟩ := Kd.qP HT.out
   have HCL := Lib.hid hCL
   have HCT := Lib.hid hCT
   have HFD := Lib.hid (fun (q : S59) v (hb : Below wr.heap.size wr v) => (rfind_c AL cl (l.map opBk) q (by rw [List.length_map]; omega) hcl v (Kd.qp HCL.out hb)).mono fun e w' (z : e = .returned (.int .i64 (fndR alikeB (opOf q) ((l.map opBk).map opOf)).2) ∧ Below v.heap.size v w') => (show e = .returned (.int .i64 (fndR alikeB (opOf q) l).2) ∧ Below v.heap.size v w' from ⟨by rw [z.1, bk_of], z.2⟩))
   have htc : ∀ i : Int, 0 ≤ i → i < (tv.length : Int) → ∃ g2, AT = some ⟨g2, 0, none⟩ ∧ wr.cell? ⟨g2, i.toNat, none⟩ = some (.int .i64 (rd tv i)) ∧ ¬ g2 = wr.heap.size := fun i i0 i1 => by
    obtain ⟨g2, cap2, hv2, -, hg2, -⟩ := Kd.R_form HT.out (by omega)
    cases hv2
    obtain ⟨ad, had, dd⟩ := Kd.at_int HCT.out i i0 i1
    cases had
    rw [add_plain] at dd
    exact ⟨g2, rfl, dd, by omega⟩
   rw [List.length_map] at hcl HFD
   clear hCL hCT ht3 HP
   have hcase : (o.f0 = 3 ∧ nmO tv (opOf o) = opOf ⟨o.f0, rd tv o.f1, rd tv o.f2, o.f3, o.f4, o.f5⟩) ∨ ((o.f0 = 5 ∨ o.f0 = 6) ∧ nmO tv (opOf o) = opOf ⟨o.f0, rd tv o.f1, rd tv o.f2, o.f3, o.f4, o.f5⟩) ∨ (o.f0 = 4 ∧ nmO tv (opOf o) = opOf ⟨o.f0, rd tv o.f1, o.f2, o.f3, o.f4, o.f5⟩) ∨ (o.f0 ≤ 2 ∧ nmO tv (opOf o) = opOf o) := by
    unfold nmO
    have e0 : (opOf o).f0 = o.f0 := rfl
    rw [e0]
    by_cases h3 : o.f0 = 3
    ·exact .inl ⟨h3, by rw [if_pos (.inl h3)]; rfl⟩
    by_cases h5 : o.f0 = 5
    ·exact .inr (.inl ⟨.inl h5, by rw [if_pos (.inr (.inl h5))]; rfl⟩)
    by_cases h6 : o.f0 = 6
    ·exact .inr (.inl ⟨.inr h6, by rw [if_pos (.inr (.inr h6))]; rfl⟩)
    by_cases h4 : o.f0 = 4
    ·exact .inr (.inr (.inl ⟨h4, by rw [if_neg (by omega), if_pos h4]; rfl⟩))
    ·exact .inr (.inr (.inr ⟨by omega, by rw [if_neg (by omega), if_neg h4]⟩))
   rcases hcase with ⟨hc, hn⟩ | ⟨hc, hn⟩ | ⟨hc, hn⟩ | ⟨hc, hn⟩
   ·-- 0
    have t0 : decide (o.f0 ≥ 3) = true := by simp; omega
    have t1 : (o.f0 == 3) = true := by simp; omega
    obtain ⟨p1, p2⟩ := n1 (by omega)
    have q2 : o.f1 < (tv.length : Int) := by omega
    obtain ⟨g2, rfl, dt1, hg2⟩ := htc o.f1 (by omega) (by omega)
    obtain ⟨p3, p4⟩ := n2 (by omega)
    have q4 : o.f2 < (tv.length : Int) := by omega
    obtain ⟨g3, hg3, dt2, -⟩ := htc o.f2 (by omega) (by omega)
    cases hg3
    have HQ := Lib.hid hn
    have HLT := Lib.hid (show (tv.length + 1) * 8 ≤ 140737488355328 ∧ (l.length + 1) * 48 ≤ 140737488355328 by omega)
    have HKK := Lib.hid (show k + 1 ≤ ops.length by omega)
    clear n1 n2 hc hn ht1 ht2
    generalize rd tv o.f1 = y1 at *
    generalize rd tv o.f2 = y2 at *
    have HBQ := Lib.hid (bal (Below.refl wr.heap.size wr) (.cells #[.int .i64 o.f0, .int .i64 y1, .int .i64 y2, .int .u32 o.f3, .int .i64 o.f4, .int .i64 o.f5] 59))
    have dt1' := cellk (bal (Below.refl wr.heap.size wr) (.cells #[.int .i64 o.f0, .int .i64 o.f1, .int .i64 o.f2, .int .u32 o.f3, .int .i64 o.f4, .int .i64 o.f5] 59)) dt1
    have dt2' := cellk (bal (Below.refl wr.heap.size wr) (.cells #[.int .i64 o.f0, .int .i64 y1, .int .i64 o.f2, .int .u32 o.f3, .int .i64 o.f4, .int .i64 o.f5] 59)) dt2
    have hst := HSTEP.out
    rw [HQ.out] at hst
    have HST := Lib.hid hst
    have HFQ := Lib.hid (HFD.out ⟨o.f0, y1, y2, o.f3, o.f4, o.f5⟩ _ HBQ.out)
    clear hst HSTEP HQ HFD htc
    generalize (fndR alikeB (opOf ⟨o.f0, y1, y2, o.f3, o.f4, o.f5⟩) l).2 = F at HFQ HST
    go_wp2_with fail
    refine HFQ.out.mono ?_
    rintro e w1 ⟨rfl, hb1⟩
    have b0 := cellk hb1 (a := ⟨wr.heap.size, 0, none⟩) (v := .int .i64 o.f0) (by simp [go_sem])
    have b1 := cellk hb1 (a := ⟨wr.heap.size, 1, none⟩) (v := .int .i64 y1) (by simp [go_sem])
    have b2 := cellk hb1 (a := ⟨wr.heap.size, 2, none⟩) (v := .int .i64 y2) (by simp [go_sem])
    have b3 := cellk hb1 (a := ⟨wr.heap.size, 3, none⟩) (v := .int .u32 o.f3) (by simp [go_sem])
    have b4 := cellk hb1 (a := ⟨wr.heap.size, 4, none⟩) (v := .int .i64 o.f4) (by simp [go_sem])
    have b5 := cellk hb1 (a := ⟨wr.heap.size, 5, none⟩) (v := .int .i64 o.f5) (by simp [go_sem])
    have HBW := Lib.hid (bthen HBQ.out hb1)
    have HS1 := Lib.hid (HS.out.below HBW.out)
    have HL1 := Lib.hid (Kd.qN HL.out HBW.out)
    have HT1 := Lib.hid (Kd.qN HT.out HBW.out)
    have HNE := Lib.hid (show some wr.heap.size ≠ (Value.slice (some ⟨g2, 0, none⟩) tv.length ct).ownBlock from fun e => absurd (Kd.R_lt HT.out _ e.symm) (Nat.lt_irrefl _))
    have hlw : wr.heap.size < w1.heap.size := World.block_lt_of_cell? w1 ⟨wr.heap.size, 0, none⟩ b0
    clear hb1 HFQ HBQ d0 d1 d2 d3 d4 d5 dt1 dt2 dt1' dt2'
    by_cases hF : 0 ≤ F
    ·have tF : decide (F ≥ 0) = true := decide_eq_true hF
     have hst := HST.out
     rw [if_pos hF] at hst
     have HST1 := Lib.hid hst
     clear hst HST hF b0 b1 b2 b3 b4 b5
     go_wp2_with (at_builtin; refine Kd.R_append (Kd.int .i64) (w0 := w) w.heap.size rfl _ _ 80 3 (.int .i64 0) 8 rfl Try.underlying80 infoIntR rfl (by decide) (by decide) (.slice (some ⟨g2, 0, none⟩) tv.length ct) tv F [.int .i64 F] (fun _ => True) (fun _ => False) rfl rfl (by exact rfl) (fun _ hk => hk.elim) (fun _ _ => trivial) HT1.out HS1.out.bel HS1.out.bel.size HLT.out.1 ?_)
     intro v3 w3 ho3 hb3 hg3 hat3
     have HS3 := Lib.hid (HS1.out.over HT1.out (by decide) hg3 hb3)
     have HL3 := Lib.hid (Kd.R_over HL1.out HT1.out (by decide) hg3)
     have HT3 := Lib.hid ho3
     clear ho3 hb3 hg3 hat3
     go_wp2
     go_roundw
     case rel => exact ⟨k + 1, HKK.out, by go_num, l, tv ++ [F], HST1, HS3, HL3, HT3⟩
     case measure => simp [intOf]; omega
    ·have tF : decide (F ≥ 0) = false := decide_eq_false hF
     have hst := HST.out
     rw [if_neg hF] at hst
     have HST1 := Lib.hid hst
     clear hst HST hF
     go_wp2_with (at_builtin; refine Kd.R_append (Kd.int .i64) (w0 := w) w.heap.size rfl _ _ 80 3 (.int .i64 0) 8 rfl Try.underlying80 infoIntR rfl (by decide) (by decide) (.slice (some ⟨g2, 0, none⟩) tv.length ct) tv (l.length : Int) [.int .i64 (l.length : Int)] (fun _ => True) (fun _ => False) rfl rfl (by exact rfl) (fun _ hk => hk.elim) (fun _ _ => trivial) HT1.out HS1.out.bel HS1.out.bel.size HLT.out.1 ?_)
     intro v3 w3 ho3 hb3 hg3 hat3
     have hbk := hg3.block wr.heap.size hlw HNE.out
     have c0' := (World.cell?_of_block (a := ⟨wr.heap.size, 0, none⟩) hbk).trans b0
     have c1' := (World.cell?_of_block (a := ⟨wr.heap.size, 1, none⟩) hbk).trans b1
     have c2' := (World.cell?_of_block (a := ⟨wr.heap.size, 2, none⟩) hbk).trans b2
     have c3' := (World.cell?_of_block (a := ⟨wr.heap.size, 3, none⟩) hbk).trans b3
     have c4' := (World.cell?_of_block (a := ⟨wr.heap.size, 4, none⟩) hbk).trans b4
     have c5' := (World.cell?_of_block (a := ⟨wr.heap.size, 5, none⟩) hbk).trans b5
     have HS3 := Lib.hid (HS1.out.over HT1.out (by decide) hg3 hb3)
     have HL3 := Lib.hid (Kd.R_over HL1.out HT1.out (by decide) hg3)
     have HT3 := Lib.hid ho3
     clear ho3 hb3 hg3 hat3 b0 b1 b2 b3 b4 b5 hbk
     go_wp2_with (at_builtin; refine Kd.R_append k59 (w0 := w) w.heap.size rfl _ _ 23 59 (.agg #[.int .i64 0, .int .i64 0, .int .i64 0, .int .u32 0, .int .i64 0, .int .i64 0]) 48 rfl Try.underlying23 infoOpR rfl (by decide) (by decide) (.slice AL l.length cl) (l.map opBk) ⟨o.f0, y1, y2, o.f3, o.f4, o.f5⟩ [.int .i64 o.f0, .int .i64 y1, .int .i64 y2, .int .u32 o.f3, .int .i64 o.f4, .int .i64 o.f5] (fun _ => True) (fun _ => False) rfl rfl (k59_mkM _ _ _ _) (fun _ hk => hk.elim) (fun _ _ => trivial) HL3.out HS3.out.bel HS3.out.bel.size (by rw [List.length_map]; exact HLT.out.2) ?_)
     intro v4 w4 ho4 hb4 hg4 hat4
     have HS4 := Lib.hid (HS3.out.over HL3.out (by decide) hg4 hb4)
     have HT4 := Lib.hid (Kd.R_over HT3.out HL3.out (by decide) hg4)
     have ho5 : Kd.R k59 59 w4 w.heap.size (fun _ => True) v4 ((l ++ [opOf ⟨o.f0, y1, y2, o.f3, o.f4, o.f5⟩]).map opBk) := by rw [List.map_append]; exact ho4
     have HL4 := Lib.hid ho5
     clear ho4 ho5 hb4 hg4 hat4
     go_wp2
     go_roundw
     case rel => exact ⟨k + 1, HKK.out, by go_num, _, _, HST1, HS4, HL4, HT4⟩
     case measure => simp [intOf]; omega
   ·-- 1
    have t0 : decide (o.f0 ≥ 3) = true := by simp; omega
    have t1 : (o.f0 == 3) = false := by simp; omega
    have t2 : decide (o.f0 ≥ 5) = true := by simp; omega
    obtain ⟨p1, p2⟩ := n1 (by omega)
    have q2 : o.f1 < (tv.length : Int) := by omega
    obtain ⟨g2, rfl, dt1, hg2⟩ := htc o.f1 (by omega) (by omega)
    obtain ⟨p3, p4⟩ := n2 (by omega)
    have q4 : o.f2 < (tv.length : Int) := by omega
    obtain ⟨g3, hg3, dt2, -⟩ := htc o.f2 (by omega) (by omega)
    cases hg3
    have HQ := Lib.hid hn
    have HLT := Lib.hid (show (tv.length + 1) * 8 ≤ 140737488355328 ∧ (l.length + 1) * 48 ≤ 140737488355328 by omega)
    have HKK := Lib.hid (show k + 1 ≤ ops.length by omega)
    clear n1 n2 hc hn ht1 ht2
    generalize rd tv o.f1 = y1 at *
    generalize rd tv o.f2 = y2 at *
    have HBQ := Lib.hid (bal (Below.refl wr.heap.size wr) (.cells #[.int .i64 o.f0, .int .i64 y1, .int .i64 y2, .int .u32 o.f3, .int .i64 o.f4, .int .i64 o.f5] 59))
    have dt1' := cellk (bal (Below.refl wr.heap.size wr) (.cells #[.int .i64 o.f0, .int .i64 o.f1, .int .i64 o.f2, .int .u32 o.f3, .int .i64 o.f4, .int .i64 o.f5] 59)) dt1
    have dt2' := cellk (bal (Below.refl wr.heap.size wr) (.cells #[.int .i64 o.f0, .int .i64 y1, .int .i64 o.f2, .int .u32 o.f3, .int .i64 o.f4, .int .i64 o.f5] 59)) dt2
    have hst := HSTEP.out
    rw [HQ.out] at hst
    have HST := Lib.hid hst
    have HFQ := Lib.hid (HFD.out ⟨o.f0, y1, y2, o.f3, o.f4, o.f5⟩ _ HBQ.out)
    clear hst HSTEP HQ HFD htc
    generalize (fndR alikeB (opOf ⟨o.f0, y1, y2, o.f3, o.f4, o.f5⟩) l).2 = F at HFQ HST
    go_wp2_with fail
    refine HFQ.out.mono ?_
    rintro e w1 ⟨rfl, hb1⟩
    have b0 := cellk hb1 (a := ⟨wr.heap.size, 0, none⟩) (v := .int .i64 o.f0) (by simp [go_sem])
    have b1 := cellk hb1 (a := ⟨wr.heap.size, 1, none⟩) (v := .int .i64 y1) (by simp [go_sem])
    have b2 := cellk hb1 (a := ⟨wr.heap.size, 2, none⟩) (v := .int .i64 y2) (by simp [go_sem])
    have b3 := cellk hb1 (a := ⟨wr.heap.size, 3, none⟩) (v := .int .u32 o.f3) (by simp [go_sem])
    have b4 := cellk hb1 (a := ⟨wr.heap.size, 4, none⟩) (v := .int .i64 o.f4) (by simp [go_sem])
    have b5 := cellk hb1 (a := ⟨wr.heap.size, 5, none⟩) (v := .int .i64 o.f5) (by simp [go_sem])
    have HBW := Lib.hid (bthen HBQ.out hb1)
    have HS1 := Lib.hid (HS.out.below HBW.out)
    have HL1 := Lib.hid (Kd.qN HL.out HBW.out)
    have HT1 := Lib.hid (Kd.qN HT.out HBW.out)
    have HNE := Lib.hid (show some wr.heap.size ≠ (Value.slice (some ⟨g2, 0, none⟩) tv.length ct).ownBlock from fun e => absurd (Kd.R_lt HT.out _ e.symm) (Nat.lt_irrefl _))
    have hlw : wr.heap.size < w1.heap.size := World.block_lt_of_cell? w1 ⟨wr.heap.size, 0, none⟩ b0
    clear hb1 HFQ HBQ d0 d1 d2 d3 d4 d5 dt1 dt2 dt1' dt2'
    by_cases hF : 0 ≤ F
    ·have tF : decide (F ≥ 0) = true := decide_eq_true hF
     have hst := HST.out
     rw [if_pos hF] at hst
     have HST1 := Lib.hid hst
     clear hst HST hF b0 b1 b2 b3 b4 b5
     go_wp2_with (at_builtin; refine Kd.R_append (Kd.int .i64) (w0 := w) w.heap.size rfl _ _ 80 3 (.int .i64 0) 8 rfl Try.underlying80 infoIntR rfl (by decide) (by decide) (.slice (some ⟨g2, 0, none⟩) tv.length ct) tv F [.int .i64 F] (fun _ => True) (fun _ => False) rfl rfl (by exact rfl) (fun _ hk => hk.elim) (fun _ _ => trivial) HT1.out HS1.out.bel HS1.out.bel.size HLT.out.1 ?_)
     intro v3 w3 ho3 hb3 hg3 hat3
     have HS3 := Lib.hid (HS1.out.over HT1.out (by decide) hg3 hb3)
     have HL3 := Lib.hid (Kd.R_over HL1.out HT1.out (by decide) hg3)
     have HT3 := Lib.hid ho3
     clear ho3 hb3 hg3 hat3
     go_wp2
     go_roundw
     case rel => exact ⟨k + 1, HKK.out, by go_num, l, tv ++ [F], HST1, HS3, HL3, HT3⟩
     case measure => simp [intOf]; omega
    ·have tF : decide (F ≥ 0) = false := decide_eq_false hF
     have hst := HST.out
     rw [if_neg hF] at hst
     have HST1 := Lib.hid hst
     clear hst HST hF
     go_wp2_with (at_builtin; refine Kd.R_append (Kd.int .i64) (w0 := w) w.heap.size rfl _ _ 80 3 (.int .i64 0) 8 rfl Try.underlying80 infoIntR rfl (by decide) (by decide) (.slice (some ⟨g2, 0, none⟩) tv.length ct) tv (l.length : Int) [.int .i64 (l.length : Int)] (fun _ => True) (fun _ => False) rfl rfl (by exact rfl) (fun _ hk => hk.elim) (fun _ _ => trivial) HT1.out HS1.out.bel HS1.out.bel.size HLT.out.1 ?_)
     intro v3 w3 ho3 hb3 hg3 hat3
     have hbk := hg3.block wr.heap.size hlw HNE.out
     have c0' := (World.cell?_of_block (a := ⟨wr.heap.size, 0, none⟩) hbk).trans b0
     have c1' := (World.cell?_of_block (a := ⟨wr.heap.size, 1, none⟩) hbk).trans b1
     have c2' := (World.cell?_of_block (a := ⟨wr.heap.size, 2, none⟩) hbk).trans b2
     have c3' := (World.cell?_of_block (a := ⟨wr.heap.size, 3, none⟩) hbk).trans b3
     have c4' := (World.cell?_of_block (a := ⟨wr.heap.size, 4, none⟩) hbk).trans b4
     have c5' := (World.cell?_of_block (a := ⟨wr.heap.size, 5, none⟩) hbk).trans b5
     have HS3 := Lib.hid (HS1.out.over HT1.out (by decide) hg3 hb3)
     have HL3 := Lib.hid (Kd.R_over HL1.out HT1.out (by decide) hg3)
     have HT3 := Lib.hid ho3
     clear ho3 hb3 hg3 hat3 b0 b1 b2 b3 b4 b5 hbk
     go_wp2_with (at_builtin; refine Kd.R_append k59 (w0 := w) w.heap.size rfl _ _ 23 59 (.agg #[.int .i64 0, .int .i64 0, .int .i64 0, .int .u32 0, .int .i64 0, .int .i64 0]) 48 rfl Try.underlying23 infoOpR rfl (by decide) (by decide) (.slice AL l.length cl) (l.map opBk) ⟨o.f0, y1, y2, o.f3, o.f4, o.f5⟩ [.int .i64 o.f0, .int .i64 y1, .int .i64 y2, .int .u32 o.f3, .int .i64 o.f4, .int .i64 o.f5] (fun _ => True) (fun _ => False) rfl rfl (k59_mkM _ _ _ _) (fun _ hk => hk.elim) (fun _ _ => trivial) HL3.out HS3.out.bel HS3.out.bel.size (by rw [List.length_map]; exact HLT.out.2) ?_)
     intro v4 w4 ho4 hb4 hg4 hat4
     have HS4 := Lib.hid (HS3.out.over HL3.out (by decide) hg4 hb4)
     have HT4 := Lib.hid (Kd.R_over HT3.out HL3.out (by decide) hg4)
     have ho5 : Kd.R k59 59 w4 w.heap.size (fun _ => True) v4 ((l ++ [opOf ⟨o.f0, y1, y2, o.f3, o.f4, o.f5⟩]).map opBk) := by rw [List.map_append]; exact ho4
     have HL4 := Lib.hid ho5
     clear ho4 ho5 hb4 hg4 hat4
     go_wp2
     go_roundw
     case rel => exact ⟨k + 1, HKK.out, by go_num, _, _, HST1, HS4, HL4, HT4⟩
     case measure => simp [intOf]; omega
   ·-- 2
    have t0 : decide (o.f0 ≥ 3) = true := by simp; omega
    have t1 : (o.f0 == 3) = false := by simp; omega
    have t2 : decide (o.f0 ≥ 5) = false := by simp; omega
    obtain ⟨p1, p2⟩ := n1 (by omega)
    have q2 : o.f1 < (tv.length : Int) := by omega
    obtain ⟨g2, rfl, dt1, hg2⟩ := htc o.f1 (by omega) (by omega)
    have HQ := Lib.hid hn
    have HLT := Lib.hid (show (tv.length + 1) * 8 ≤ 140737488355328 ∧ (l.length + 1) * 48 ≤ 140737488355328 by omega)
    have HKK := Lib.hid (show k + 1 ≤ ops.length by omega)
    clear n1 n2 hc hn ht1 ht2
    generalize rd tv o.f1 = y1 at *
    have HBQ := Lib.hid (bal (Below.refl wr.heap.size wr) (.cells #[.int .i64 o.f0, .int .i64 y1, .int .i64 o.f2, .int .u32 o.f3, .int .i64 o.f4, .int .i64 o.f5] 59))
    have dt1' := cellk (bal (Below.refl wr.heap.size wr) (.cells #[.int .i64 o.f0, .int .i64 o.f1, .int .i64 o.f2, .int .u32 o.f3, .int .i64 o.f4, .int .i64 o.f5] 59)) dt1
    have hst := HSTEP.out
    rw [HQ.out] at hst
    have HST := Lib.hid hst
    have HFQ := Lib.hid (HFD.out ⟨o.f0, y1, o.f2, o.f3, o.f4, o.f5⟩ _ HBQ.out)
    clear hst HSTEP HQ HFD htc
    generalize (fndR alikeB (opOf ⟨o.f0, y1, o.f2, o.f3, o.f4, o.f5⟩) l).2 = F at HFQ HST
    go_wp2_with fail
    refine HFQ.out.mono ?_
    rintro e w1 ⟨rfl, hb1⟩
    have b0 := cellk hb1 (a := ⟨wr.heap.size, 0, none⟩) (v := .int .i64 o.f0) (by simp [go_sem])
    have b1 := cellk hb1 (a := ⟨wr.heap.size, 1, none⟩) (v := .int .i64 y1) (by simp [go_sem])
    have b2 := cellk hb1 (a := ⟨wr.heap.size, 2, none⟩) (v := .int .i64 o.f2) (by simp [go_sem])
    have b3 := cellk hb1 (a := ⟨wr.heap.size, 3, none⟩) (v := .int .u32 o.f3) (by simp [go_sem])
    have b4 := cellk hb1 (a := ⟨wr.heap.size, 4, none⟩) (v := .int .i64 o.f4) (by simp [go_sem])
    have b5 := cellk hb1 (a := ⟨wr.heap.size, 5, none⟩) (v := .int .i64 o.f5) (by simp [go_sem])
    have HBW := Lib.hid (bthen HBQ.out hb1)
    have HS1 := Lib.hid (HS.out.below HBW.out)
    have HL1 := Lib.hid (Kd.qN HL.out HBW.out)
    have HT1 := Lib.hid (Kd.qN HT.out HBW.out)
    have HNE := Lib.hid (show some wr.heap.size ≠ (Value.slice (some ⟨g2, 0, none⟩) tv.length ct).ownBlock from fun e => absurd (Kd.R_lt HT.out _ e.symm) (Nat.lt_irrefl _))
    have hlw : wr.heap.size < w1.heap.size := World.block_lt_of_cell? w1 ⟨wr.heap.size, 0, none⟩ b0
    clear hb1 HFQ HBQ d0 d1 d2 d3 d4 d5 dt1 dt1'
    by_cases hF : 0 ≤ F
    ·have tF : decide (F ≥ 0) = true := decide_eq_true hF
     have hst := HST.out
     rw [if_pos hF] at hst
     have HST1 := Lib.hid hst
     clear hst HST hF b0 b1 b2 b3 b4 b5
     go_wp2_with (at_builtin; refine Kd.R_append (Kd.int .i64) (w0 := w) w.heap.size rfl _ _ 80 3 (.int .i64 0) 8 rfl Try.underlying80 infoIntR rfl (by decide) (by decide) (.slice (some ⟨g2, 0, none⟩) tv.length ct) tv F [.int .i64 F] (fun _ => True) (fun _ => False) rfl rfl (by exact rfl) (fun _ hk => hk.elim) (fun _ _ => trivial) HT1.out HS1.out.bel HS1.out.bel.size HLT.out.1 ?_)
     intro v3 w3 ho3 hb3 hg3 hat3
     have HS3 := Lib.hid (HS1.out.over HT1.out (by decide) hg3 hb3)
     have HL3 := Lib.hid (Kd.R_over HL1.out HT1.out (by decide) hg3)
     have HT3 := Lib.hid ho3
     clear ho3 hb3 hg3 hat3
     go_wp2
     go_roundw
     case rel => exact ⟨k + 1, HKK.out, by go_num, l, tv ++ [F], HST1, HS3, HL3, HT3⟩
     case measure => simp [intOf]; omega
    ·have tF : decide (F ≥ 0) = false := decide_eq_false hF
     have hst := HST.out
     rw [if_neg hF] at hst
     have HST1 := Lib.hid hst
     clear hst HST hF
     go_wp2_with (at_builtin; refine Kd.R_append (Kd.int .i64) (w0 := w) w.heap.size rfl _ _ 80 3 (.int .i64 0) 8 rfl Try.underlying80 infoIntR rfl (by decide) (by decide) (.slice (some ⟨g2, 0, none⟩) tv.length ct) tv (l.length : Int) [.int .i64 (l.length : Int)] (fun _ => True) (fun _ => False) rfl rfl (by exact rfl) (fun _ hk => hk.elim) (fun _ _ => trivial) HT1.out HS1.out.bel HS1.out.bel.size HLT.out.1 ?_)
     intro v3 w3 ho3 hb3 hg3 hat3
     have hbk := hg3.block wr.heap.size hlw HNE.out
     have c0' := (World.cell?_of_block (a := ⟨wr.heap.size, 0, none⟩) hbk).trans b0
     have c1' := (World.cell?_of_block (a := ⟨wr.heap.size, 1, none⟩) hbk).trans b1
     have c2' := (World.cell?_of_block (a := ⟨wr.heap.size, 2, none⟩) hbk).trans b2
     have c3' := (World.cell?_of_block (a := ⟨wr.heap.size, 3, none⟩) hbk).trans b3
     have c4' := (World.cell?_of_block (a := ⟨wr.heap.size, 4, none⟩) hbk).trans b4
     have c5' := (World.cell?_of_block (a := ⟨wr.heap.size, 5, none⟩) hbk).trans b5
     have HS3 := Lib.hid (HS1.out.over HT1.out (by decide) hg3 hb3)
     have HL3 := Lib.hid (Kd.R_over HL1.out HT1.out (by decide) hg3)
     have HT3 := Lib.hid ho3
     clear ho3 hb3 hg3 hat3 b0 b1 b2 b3 b4 b5 hbk
     go_wp2_with (at_builtin; refine Kd.R_append k59 (w0 := w) w.heap.size rfl _ _ 23 59 (.agg #[.int .i64 0, .int .i64 0, .int .i64 0, .int .u32 0, .int .i64 0, .int .i64 0]) 48 rfl Try.underlying23 infoOpR rfl (by decide) (by decide) (.slice AL l.length cl) (l.map opBk) ⟨o.f0, y1, o.f2, o.f3, o.f4, o.f5⟩ [.int .i64 o.f0, .int .i64 y1, .int .i64 o.f2, .int .u32 o.f3, .int .i64 o.f4, .int .i64 o.f5] (fun _ => True) (fun _ => False) rfl rfl (k59_mkM _ _ _ _) (fun _ hk => hk.elim) (fun _ _ => trivial) HL3.out HS3.out.bel HS3.out.bel.size (by rw [List.length_map]; exact HLT.out.2) ?_)
     intro v4 w4 ho4 hb4 hg4 hat4
     have HS4 := Lib.hid (HS3.out.over HL3.out (by decide) hg4 hb4)
     have HT4 := Lib.hid (Kd.R_over HT3.out HL3.out (by decide) hg4)
     have ho5 : Kd.R k59 59 w4 w.heap.size (fun _ => True) v4 ((l ++ [opOf ⟨o.f0, y1, o.f2, o.f3, o.f4, o.f5⟩]).map opBk) := by rw [List.map_append]; exact ho4
     have HL4 := Lib.hid ho5
     clear ho4 ho5 hb4 hg4 hat4
     go_wp2
     go_roundw
     case rel => exact ⟨k + 1, HKK.out, by go_num, _, _, HST1, HS4, HL4, HT4⟩
     case measure => simp [intOf]; omega
   ·-- 3
    have t0 : decide (o.f0 ≥ 3) = false := by simp; omega
    have t1 : (o.f0 == 3) = false := by simp; omega
    have t2 : decide (o.f0 ≥ 5) = false := by simp; omega
    have HQ := Lib.hid hn
    have HLT := Lib.hid (show (tv.length + 1) * 8 ≤ 140737488355328 ∧ (l.length + 1) * 48 ≤ 140737488355328 by omega)
    have HKK := Lib.hid (show k + 1 ≤ ops.length by omega)
    clear n1 n2 hc hn ht1 ht2
    have HBQ := Lib.hid (bal (Below.refl wr.heap.size wr) (.cells #[.int .i64 o.f0, .int .i64 o.f1, .int .i64 o.f2, .int .u32 o.f3, .int .i64 o.f4, .int .i64 o.f5] 59))
    have hst := HSTEP.out
    rw [HQ.out] at hst
    have HST := Lib.hid hst
    have HFQ := Lib.hid (HFD.out ⟨o.f0, o.f1, o.f2, o.f3, o.f4, o.f5⟩ _ HBQ.out)
    clear hst HSTEP HQ HFD htc
    generalize (fndR alikeB (opOf ⟨o.f0, o.f1, o.f2, o.f3, o.f4, o.f5⟩) l).2 = F at HFQ HST
    go_wp2_with fail
    refine HFQ.out.mono ?_
    rintro e w1 ⟨rfl, hb1⟩
    have b0 := cellk hb1 (a := ⟨wr.heap.size, 0, none⟩) (v := .int .i64 o.f0) (by simp [go_sem])
    have b1 := cellk hb1 (a := ⟨wr.heap.size, 1, none⟩) (v := .int .i64 o.f1) (by simp [go_sem])
    have b2 := cellk hb1 (a := ⟨wr.heap.size, 2, none⟩) (v := .int .i64 o.f2) (by simp [go_sem])
    have b3 := cellk hb1 (a := ⟨wr.heap.size, 3, none⟩) (v := .int .u32 o.f3) (by simp [go_sem])
    have b4 := cellk hb1 (a := ⟨wr.heap.size, 4, none⟩) (v := .int .i64 o.f4) (by simp [go_sem])
    have b5 := cellk hb1 (a := ⟨wr.heap.size, 5, none⟩) (v := .int .i64 o.f5) (by simp [go_sem])
    have HBW := Lib.hid (bthen HBQ.out hb1)
    have HS1 := Lib.hid (HS.out.below HBW.out)
    have HL1 := Lib.hid (Kd.qN HL.out HBW.out)
    have HT1 := Lib.hid (Kd.qN HT.out HBW.out)
    have HNE := Lib.hid (show some wr.heap.size ≠ (Value.slice AT tv.length ct).ownBlock from fun e => absurd (Kd.R_lt HT.out _ e.symm) (Nat.lt_irrefl _))
    have hlw : wr.heap.size < w1.heap.size := World.block_lt_of_cell? w1 ⟨wr.heap.size, 0, none⟩ b0
    clear hb1 HFQ HBQ d0 d1 d2 d3 d4 d5
    by_cases hF : 0 ≤ F
    ·have tF : decide (F ≥ 0) = true := decide_eq_true hF
     have hst := HST.out
     rw [if_pos hF] at hst
     have HST1 := Lib.hid hst
     clear hst HST hF b0 b1 b2 b3 b4 b5
     go_wp2_with (at_builtin; refine Kd.R_append (Kd.int .i64) (w0 := w) w.heap.size rfl _ _ 80 3 (.int .i64 0) 8 rfl Try.underlying80 infoIntR rfl (by decide) (by decide) (.slice AT tv.length ct) tv F [.int .i64 F] (fun _ => True) (fun _ => False) rfl rfl (by exact rfl) (fun _ hk => hk.elim) (fun _ _ => trivial) HT1.out HS1.out.bel HS1.out.bel.size HLT.out.1 ?_)
     intro v3 w3 ho3 hb3 hg3 hat3
     have HS3 := Lib.hid (HS1.out.over HT1.out (by decide) hg3 hb3)
     have HL3 := Lib.hid (Kd.R_over HL1.out HT1.out (by decide) hg3)
     have HT3 := Lib.hid ho3
     clear ho3 hb3 hg3 hat3
     go_wp2
     go_roundw
     case rel => exact ⟨k + 1, HKK.out, by go_num, l, tv ++ [F], HST1, HS3, HL3, HT3⟩
     case measure => simp [intOf]; omega
    ·have tF : decide (F ≥ 0) = false := decide_eq_false hF
     have hst := HST.out
     rw [if_neg hF] at hst
     have HST1 := Lib.hid hst
     clear hst HST hF
     go_wp2_with (at_builtin; refine Kd.R_append (Kd.int .i64) (w0 := w) w.heap.size rfl _ _ 80 3 (.int .i64 0) 8 rfl Try.underlying80 infoIntR rfl (by decide) (by decide) (.slice AT tv.length ct) tv (l.length : Int) [.int .i64 (l.length : Int)] (fun _ => True) (fun _ => False) rfl rfl (by exact rfl) (fun _ hk => hk.elim) (fun _ _ => trivial) HT1.out HS1.out.bel HS1.out.bel.size HLT.out.1 ?_)
     intro v3 w3 ho3 hb3 hg3 hat3
     have hbk := hg3.block wr.heap.size hlw HNE.out
     have c0' := (World.cell?_of_block (a := ⟨wr.heap.size, 0, none⟩) hbk).trans b0
     have c1' := (World.cell?_of_block (a := ⟨wr.heap.size, 1, none⟩) hbk).trans b1
     have c2' := (World.cell?_of_block (a := ⟨wr.heap.size, 2, none⟩) hbk).trans b2
     have c3' := (World.cell?_of_block (a := ⟨wr.heap.size, 3, none⟩) hbk).trans b3
     have c4' := (World.cell?_of_block (a := ⟨wr.heap.size, 4, none⟩) hbk).trans b4
     have c5' := (World.cell?_of_block (a := ⟨wr.heap.size, 5, none⟩) hbk).trans b5
     have HS3 := Lib.hid (HS1.out.over HT1.out (by decide) hg3 hb3)
     have HL3 := Lib.hid (Kd.R_over HL1.out HT1.out (by decide) hg3)
     have HT3 := Lib.hid ho3
     clear ho3 hb3 hg3 hat3 b0 b1 b2 b3 b4 b5 hbk
     go_wp2_with (at_builtin; refine Kd.R_append k59 (w0 := w) w.heap.size rfl _ _ 23 59 (.agg #[.int .i64 0, .int .i64 0, .int .i64 0, .int .u32 0, .int .i64 0, .int .i64 0]) 48 rfl Try.underlying23 infoOpR rfl (by decide) (by decide) (.slice AL l.length cl) (l.map opBk) ⟨o.f0, o.f1, o.f2, o.f3, o.f4, o.f5⟩ [.int .i64 o.f0, .int .i64 o.f1, .int .i64 o.f2, .int .u32 o.f3, .int .i64 o.f4, .int .i64 o.f5] (fun _ => True) (fun _ => False) rfl rfl (k59_mkM _ _ _ _) (fun _ hk => hk.elim) (fun _ _ => trivial) HL3.out HS3.out.bel HS3.out.bel.size (by rw [List.length_map]; exact HLT.out.2) ?_)
     intro v4 w4 ho4 hb4 hg4 hat4
     have HS4 := Lib.hid (HS3.out.over HL3.out (by decide) hg4 hb4)
     have HT4 := Lib.hid (Kd.R_over HT3.out HL3.out (by decide) hg4)
     have ho5 : Kd.R k59 59 w4 w.heap.size (fun _ => True) v4 ((l ++ [opOf ⟨o.f0, o.f1, o.f2, o.f3, o.f4, o.f5⟩]).map opBk) := by rw [List.map_append]; exact ho4
     have HL4 := Lib.hid ho5
     clear ho4 ho5 hb4 hg4 hat4
     go_wp2
     go_roundw
     case rel => exact ⟨k + 1, HKK.out, by go_num, _, _, HST1, HS4, HL4, HT4⟩
     case measure => simp [intOf]; omega
  ·have hke : ops.length = k := by omega
   have hP := HP.out
   rw [← hke, show ops.length = (ops.map opOf).length by simp, List.take_length] at hP
   obtain ⟨AL, cl, hvl, hcl, hCL⟩ := Kd.qP HL.out
   rw [List.length_map] at hvl hcl
   subst hvl
   obtain ⟨AT, ct, rfl, hct, hCT⟩ := Kd.qP HT.out
   have htt : tv.length = ops.length := by omega
   have HXC := Lib.hid (fun v (hb : Below wr.heap.size wr v) => rexits_c A2 AT c2 ct exits tv lm2 HM.out (fun x hx => by rw [htt]; exact (HTO.out x hx).1) (fun x hx => by rw [htt]; exact (HTO.out x hx).2) hl2 hct v (Kd.qp HC2.out (bthen HS.out.bel hb)) (Kd.qp hCT hb))
   have HPP := Lib.hid hP
   clear hP hCL hCT ht1 ht2 ht3 hke hk HP htt hct HTO HOP HM
   have x0 := HS.out.c0
   have x2 := HS.out.c2
   have x3 := HS.out.c3
   have HBEL := Lib.hid (below_drew (Below.refl wr.heap.size wr))
   have HAFTER : Hid (∀ w3 : World, Below (wr.drew).heap.size wr.drew w3 → w3.cell? ⟨w.heap.size, 0, none⟩ = some (.slice A0 pcs.length c0) ∧ w3.cell? ⟨w.heap.size, 2, none⟩ = some (.slice A2 exits.length c2) ∧ w3.cell? ⟨w.heap.size, 3, none⟩ = some (.int .i64 last) ∧ (w3.cell? ⟨w.heap.size + 1, 0, none⟩ = some (.slice none 0 0) ∧ w3.cell? ⟨w.heap.size + 1, 1, none⟩ = some (.slice none 0 0) ∧ w3.cell? ⟨w.heap.size + 1, 2, none⟩ = some (.slice none 0 0) ∧ w3.cell? ⟨w.heap.size + 1, 3, none⟩ = some (.int .i64 0)) ∧ (w3.frozen? ⟨w.heap.size + 1, 0, none⟩ = false ∧ w3.frozen? ⟨w.heap.size + 1, 1, none⟩ = false ∧ w3.frozen? ⟨w.heap.size + 1, 2, none⟩ = false ∧ w3.frozen? ⟨w.heap.size + 1, 3, none⟩ = false) ∧ Hid (RdSt w w3 (.slice A0 pcs.length c0) (.slice A1 ops.length c1) (.slice A2 exits.length c2) last) ∧ Hid (Below wr.heap.size wr w3)) := Lib.hid (by
    intro w3 hb3
    have hb := bthen HBEL.out hb3
    have h3 := HS.out.below hb
    exact ⟨h3.c0, h3.c2, h3.c3, ⟨h3.d0, h3.d1, h3.d2, h3.d3⟩, ⟨h3.f 0, h3.f 1, h3.f 2, h3.f 3⟩, Lib.hid h3, Lib.hid hb⟩)
   go_wp2_with fail
   go_region_law (go_simp; with_reducible refine Calls.mono (HXC.out _ HBEL.out) ?_; rintro e w3 ⟨⟨AE, ce, rfl, HE⟩, hb3⟩; obtain ⟨y0, y2, y3, ⟨z0, z1, z2, z3⟩, ⟨j0, j1, j2, j3⟩, HS3, HB3⟩ := HAFTER.out w3 hb3; clear hb3)
   all_goals
    have b' := qF (qF (qF (qF HS3.out.b1 0 (.slice A0 pcs.length c0)) 1 (.slice AL l.length cl)) 2 (.slice AE exits.length ce)) 3 (.int .i64 last)
    have hbel : Below w.heap.size w ((((w3.setCell ⟨w.heap.size + 1, 0, none⟩ (.slice A0 pcs.length c0)).setCell ⟨w.heap.size + 1, 1, none⟩ (.slice AL l.length cl)).setCell ⟨w.heap.size + 1, 2, none⟩ (.slice AE exits.length ce)).setCell ⟨w.heap.size + 1, 3, none⟩ (.int .i64 last)) := bset (bset (bset (bset HS3.out.bel (Nat.le_succ _) _) (Nat.le_succ _) _) (Nat.le_succ _) _) (Nat.le_succ _) _
    have hRl := Kd.R_set (Kd.R_set (Kd.R_set (Kd.R_set (Kd.qN HL.out HB3.out) HS3.out.b1 (by decide) 0 (.slice A0 pcs.length c0)) (qF HS3.out.b1 0 _) (by decide) 1 (.slice AL l.length cl)) (qF (qF HS3.out.b1 0 _) 1 _) (by decide) 2 (.slice AE exits.length ce)) (qF (qF (qF HS3.out.b1 0 _) 1 _) 2 _) (by decide) 3 (.int .i64 last)
    have hCl := (Kd.R_reads' hRl).2.2
    rw [List.length_map] at hCl
    have hRe := Kd.R_set (Kd.R_set (Kd.R_set (Kd.R_set HE.out HS3.out.b1 (by decide) 0 (.slice A0 pcs.length c0)) (qF HS3.out.b1 0 _) (by decide) 1 (.slice AL l.length cl)) (qF (qF HS3.out.b1 0 _) 1 _) (by decide) 2 (.slice AE exits.length ce)) (qF (qF (qF HS3.out.b1 0 _) 1 _) 2 _) (by decide) 3 (.int .i64 last)
    have hCe := (Kd.R_reads' hRe).2.2
    rw [List.length_map] at hCe
    have hC0 := Kd.qp HC0.out hbel
    have HB1 := Lib.hid b'
    have HB2 := Lib.hid hbel
    have HB4 := Lib.hid hCl
    have HB5 := Lib.hid hCe
    have HB6 := Lib.hid hC0
    clear b' hbel hRl hCl hRe hCe hC0 HL HT HS HS3 HB3 HE HXC HBEL HAFTER x0 x2 x3 y0 y2 y3 HC1 HC2
    go_wp2
    generalize hW : ((((w3.setCell ⟨w.heap.size + 1, 0, none⟩ (.slice A0 pcs.length c0)).setCell ⟨w.heap.size + 1, 1, none⟩ (.slice AL l.length cl)).setCell ⟨w.heap.size + 1, 2, none⟩ (.slice AE exits.length ce)).setCell ⟨w.heap.size + 1, 3, none⟩ (.int .i64 last)) = W at *
    have hb2 : W.heap[w.heap.size + 1]? = some (.cells #[.slice A0 pcs.length c0, .slice AL l.length cl, .slice AE exits.length ce, .int .i64 last] 26 (0, 0)) := HB1.out
    clear hW z0 z1 z2 z3 j0 j1 j2 j3
    try simp only [Exit.inBlock, Exit.then]
    refine bodyPost_ret (results_cell_row rfl _ _ (w.heap.size + 1) 26 _ (0, 0) _ rfl hb2 Try.underlying26 rfl (by kernel_rfl)) rfl ?_
    exact ⟨⟨_, rfl, by rw [HPP.out]; exact ⟨A0, AL, AE, c0, cl, ce, rfl, Lib.hid ⟨HB6.out, HB4.out, HB5.out⟩⟩⟩, HB2.out⟩
end Go.Proofs.Ytlnbghhhifnbdaa
