/- Contract of the sharer's op: an operation is found, or appended. Conditions: the sharer's cells and rows read as given; the operation's values are named. -/
import Derived.Test.YtlnbghhhifnbdaaZYNz
import Derived.Deep.RegionLaw
import Derived.Deep.CutBlock
import Derived.Deep.DeepCutAuto
import Derived.Deep.CutRange
namespace Go.Proofs.Ytlnbghhhifnbdaa
open Go.RowKit Go.Proofs.YtlnbghhhifnbdaaW.PrintWords Go.Proofs.YtlnbghhhifnbdaaW.PrintLast Go.Proofs.YtlnbghhhifnbdaaW.PrintMore Go.Proofs.Ytlnbghhhifnbdaa.PNumberDoes
set_option linter.unusedVariables false
set_option linter.unusedSimpArgs false

structure ShC (N : Nat) (wr : World) (gs gc : Nat) (last : Int) (v0 v1 v2 vt : Value) (st : Int) : Prop where
 bs : wr.heap[gs]? = some (.cells #[.pointer (some ⟨gc, 0, none⟩), vt, .int .i64 st] 105 (0, 0))
 bc : wr.heap[gc]? = some (.cells #[v0, v1, v2, .int .i64 last] 75 (0, 0))
 ns : N ≤ gs
 nc : N ≤ gc
section
variable {N : Nat} {wr w1 : World} {gs gc : Nat} {last : Int} {v0 v1 v2 vt u : Value} {st : Int}
theorem ShC.s0 (h : ShC N wr gs gc last v0 v1 v2 vt st) : wr.cell? ⟨gs, 0, none⟩ = some (.pointer (some ⟨gc, 0, none⟩)) := by rw [qb h.bs]; rfl
theorem ShC.s1 (h : ShC N wr gs gc last v0 v1 v2 vt st) : wr.cell? ⟨gs, 1, none⟩ = some vt := by rw [qb h.bs]; rfl
theorem ShC.s2 (h : ShC N wr gs gc last v0 v1 v2 vt st) : wr.cell? ⟨gs, 2, none⟩ = some (.int .i64 st) := by rw [qb h.bs]; rfl
theorem ShC.c1 (h : ShC N wr gs gc last v0 v1 v2 vt st) : wr.cell? ⟨gc, 1, none⟩ = some v1 := by rw [qb h.bc]; rfl
theorem ShC.c2 (h : ShC N wr gs gc last v0 v1 v2 vt st) : wr.cell? ⟨gc, 2, none⟩ = some v2 := by rw [qb h.bc]; rfl
theorem ShC.fs (h : ShC N wr gs gc last v0 v1 v2 vt st) (i : Nat) : wr.frozen? ⟨gs, i, none⟩ = false := qa h.bs i
theorem ShC.fc (h : ShC N wr gs gc last v0 v1 v2 vt st) (i : Nat) : wr.frozen? ⟨gc, i, none⟩ = false := qa h.bc i
theorem ShC.lts (h : ShC N wr gs gc last v0 v1 v2 vt st) : gs < wr.heap.size := qJ h.bs
theorem ShC.ltc (h : ShC N wr gs gc last v0 v1 v2 vt st) : gc < wr.heap.size := qJ h.bc
theorem ShC.ne (h : ShC N wr gs gc last v0 v1 v2 vt st) : gs ≠ gc := blk_ne h.bs h.bc (by decide)
theorem ShC.below (h : ShC N wr gs gc last v0 v1 v2 vt st) (hb : Below wr.heap.size wr w1) : ShC N w1 gs gc last v0 v1 v2 vt st := ⟨qo h.bs hb, qo h.bc hb, h.ns, h.nc⟩
theorem ShC.row {α : Type} {d : Kd α} {e b : Nat} {ok : Nat → Prop} {xs : List α} (h : ShC N wr gs gc last v0 v1 v2 vt st) (hr : d.R e wr b ok u xs) (h1 : e ≠ 105) (h2 : e ≠ 75) : ∀ k, u.ownBlock = some k → gs ≠ k ∧ gc ≠ k := by
 intro k hk
 have b : some gs ≠ u.ownBlock := Kd.R_ne hr h.bs h1
 have c : some gc ≠ u.ownBlock := Kd.R_ne hr h.bc h2
 rw [hk] at b c
 exact ⟨fun e => b (by rw [e]), fun e => c (by rw [e])⟩
theorem ShC.grown {row : Option Nat} (h : ShC N wr gs gc last v0 v1 v2 vt st) (hg : wr.grownBy w1 row) (hr : ∀ k, row = some k → gs ≠ k ∧ gc ≠ k) : ShC N w1 gs gc last v0 v1 v2 vt st :=
 ⟨blk_grown h.bs hg (fun e => (hr _ e.symm).1 rfl), blk_grown h.bc hg (fun e => (hr _ e.symm).2 rfl), h.ns, h.nc⟩
theorem ShC.setL (h : ShC N wr gs gc last v0 v1 v2 vt st) (u : Value) : ShC N (wr.setCell ⟨gc, 1, none⟩ u) gs gc last v0 u v2 vt st :=
 ⟨qu h.bs h.ne u, qF h.bc 1 u, h.ns, h.nc⟩
theorem ShC.setT (h : ShC N wr gs gc last v0 v1 v2 vt st) (u : Value) : ShC N (wr.setCell ⟨gs, 1, none⟩ u) gs gc last v0 v1 v2 u st :=
 ⟨qF h.bs 1 u, qu h.bc h.ne.symm u, h.ns, h.nc⟩
theorem ShC.setS (h : ShC N wr gs gc last v0 v1 v2 vt st) (s : Int) : ShC N (wr.setCell ⟨gs, 2, none⟩ (.int .i64 s)) gs gc last v0 v1 v2 vt s :=
 ⟨qF h.bs 2 _, qu h.bc h.ne.symm _, h.ns, h.nc⟩
end
theorem ExRow.keep {N : Nat} {w w1 : World} {G : Nat → Nat} {v : Value} {xs : List S72} (s : ExRow N w G v xs) (hk : ∀ (k : Nat) (cur : Array Value) (t : Nat), (t = 72 ∨ t = 69) → w.heap[k]? = some (.cells cur t (0, 0)) → w1.heap[k]? = w.heap[k]?) : ExRow N w1 G v xs := by
 obtain ⟨A, c, hv, hl, h⟩ := s
 refine ⟨A, c, hv, hl, fun hp => ?_⟩
 obtain ⟨g, ha, he⟩ := h hp
 exact ⟨g, ha, he.keep hk⟩
structure ShR (N : Nat) (B : BlkV) (wr : World) (v0 v2 : Value) (G : Nat → Nat) : Prop where
 p : PartP N B v0 wr
 x : ExRow N wr G v2 B.exits
section
variable {N : Nat} {B : BlkV} {wr w1 : World} {v0 v2 : Value} {G : Nat → Nat}
theorem ShR.below (h : ShR N B wr v0 v2 G) (hb : Below wr.heap.size wr w1) : ShR N B w1 v0 v2 G := ⟨Kd.qN h.p hb, h.x.keep fun k cur t _ hc => hb.block k (qJ hc)⟩
theorem ShR.over {α : Type} {d : Kd α} {e : Nat} {b : Nat} {ok : Nat → Prop} {u : Value} {xs : List α} (h : ShR N B wr v0 v2 G) (hr : d.R e wr b ok u xs) (h0 : ∀ q, q ∈ 27 :: (Kd.int .u32).E → q ≠ e) (h1 : e ≠ 72) (h2 : e ≠ 69) (hg : wr.grownBy w1 u.ownBlock) : ShR N B w1 v0 v2 G := by
 refine ⟨Kd.R_over' h.p (Kd.R_typed hr) h0 hg, h.x.keep fun k cur t ht hc => hg.block k (qJ hc) fun he => ?_⟩
 obtain ⟨cur', hc'⟩ := Kd.R_typed hr k he.symm
 rcases ht with rfl | rfl
 ·exact blk_ne hc' hc h1 rfl
 ·exact blk_ne hc' hc h2 rfl
theorem ShR.set {g t : Nat} {cells : Array Value} (h : ShR N B wr v0 v2 G) (hb : wr.heap[g]? = some (.cells cells t (0, 0))) (h0 : ∀ q, q ∈ 27 :: (Kd.int .u32).E → q ≠ t) (h1 : t ≠ 72) (h2 : t ≠ 69) (j : Nat) (u : Value) : ShR N B (wr.setCell ⟨g, j, none⟩ u) v0 v2 G := by
 refine ⟨Kd.R_set h.p hb h0 j u, h.x.keep fun k cur t' ht hc => ?_⟩
 refine Below.heap_setCell wr ⟨g, j, none⟩ u k fun e => ?_
 have e' : k = g := e
 subst e'
 rcases ht with rfl | rfl
 ·exact blk_ne hb hc h1 rfl
 ·exact blk_ne hb hc h2 rfl
end
def opN (l : List S66) (q : S66) : Int × List S66 := if 0 ≤ (fndR alikeB q l).2 then ((fndR alikeB q l).2, l) else ((l.length : Int), l ++ [q])
theorem stepN_op (l : List S66) (tv : List Int) (o : S66) : stepN alikeB (l, tv) o = ((opN l (nmO tv o)).2, tv ++ [(opN l (nmO tv o)).1]) := by
 unfold stepN opN
 show (if 0 ≤ (fndR alikeB (nmO tv o) l).2 then _ else _) = _
 by_cases h : 0 ≤ (fndR alikeB (nmO tv o) l).2
 ·rw [if_pos h, if_pos h]
 ·rw [if_neg h, if_neg h]
structure ShS (N : Nat) (B : BlkV) (wr : World) (gs gc : Nat) (v0 v2 vt : Value) (G : Nat → Nat) (l : List S66) (tv : List Int) (v1 : Value) (st : Int) : Prop where
 c : ShC N wr gs gc B.last v0 v1 v2 vt st
 r : ShR N B wr v0 v2 G
 l : Kd.R k66 66 wr N (fun _ => True) v1 l
 t : Kd.R (Kd.int .i64) 3 wr N (fun _ => True) vt tv
theorem ShS.below {N : Nat} {B : BlkV} {wr w1 : World} {gs gc : Nat} {v0 v2 vt v1 : Value} {G : Nat → Nat} {l : List S66} {tv : List Int} {st : Int} (h : ShS N B wr gs gc v0 v2 vt G l tv v1 st) (hb : Below wr.heap.size wr w1) : ShS N B w1 gs gc v0 v2 vt G l tv v1 st :=
 ⟨h.c.below hb, h.r.below hb, Kd.qN h.l hb, Kd.qN h.t hb⟩
structure ShM (N : Nat) (B : BlkV) (wr : World) (gs gc : Nat) (v0 v2 vt : Value) (G : Nat → Nat) (l : List S66) (tv : List Int) (v1 v1' : Value) (st : Int) : Prop where
 c : ShC N wr gs gc B.last v0 v1 v2 vt st
 r : ShR N B wr v0 v2 G
 l : Kd.R k66 66 wr N (fun _ => True) v1' l
 t : Kd.R (Kd.int .i64) 3 wr N (fun _ => True) vt tv
section
variable {N : Nat} {B : BlkV} {wr w1 : World} {gs gc : Nat} {v0 v2 vt v1 v1' : Value} {G : Nat → Nat} {l l' : List S66} {tv : List Int} {st : Int}
theorem ShS.over (h : ShS N B wr gs gc v0 v2 vt G l tv v1 st) (hl : Kd.R k66 66 w1 N (fun _ => True) v1' l') (hg : wr.grownBy w1 v1.ownBlock) : ShM N B w1 gs gc v0 v2 vt G l' tv v1 v1' st :=
 ⟨h.c.grown hg (h.c.row h.l (by decide) (by decide)), h.r.over h.l (by decide) (by decide) (by decide) hg, hl, Kd.R_over h.t h.l (by decide) hg⟩
theorem ShM.done (h : ShM N B wr gs gc v0 v2 vt G l tv v1 v1' st) : ShS N B (wr.setCell ⟨gc, 1, none⟩ v1') gs gc v0 v2 vt G l tv v1' st :=
 ⟨h.c.setL v1', h.r.set h.c.bc (by decide) (by decide) (by decide) 1 _, Kd.R_set h.l h.c.bc (by decide) 1 _, Kd.R_set h.t h.c.bc (by decide) 1 _⟩
theorem ShS.stored (h : ShS N B wr gs gc v0 v2 vt G l tv v1 st) (s : Int) : ShS N B (wr.setCell ⟨gs, 2, none⟩ (.int .i64 s)) gs gc v0 v2 vt G l tv v1 s :=
 ⟨h.c.setS s, h.r.set h.c.bs (by decide) (by decide) (by decide) 2 _, Kd.R_set h.l h.c.bs (by decide) 2 _, Kd.R_set h.t h.c.bs (by decide) 2 _⟩
end
set_option maxHeartbeats 8000000 in
set_option maxRecDepth 100000 in
theorem shop_c (N : Nat) (B : BlkV) (gs gc : Nat) (v0 v1 v2 vt : Value) (G : Nat → Nat) (l : List S66) (tv : List Int) (w : World) (H : ShS N B w gs gc v0 v2 vt G l tv v1 (stO l).2) (hN : N ≤ w.heap.size) (o : S66) (hl : l.length ≤ 1000000)
  (h1 : o.f0 = 3 ∨ o.f0 = 4 ∨ o.f0 = 5 ∨ o.f0 = 6 → 0 ≤ o.f1 ∧ o.f1 < (tv.length : Int)) (h2 : o.f0 = 3 ∨ o.f0 = 5 ∨ o.f0 = 6 → 0 ≤ o.f2 ∧ o.f2 < (tv.length : Int)) :
  Calls Try.prog 62 #[.pointer (some ⟨gs, 0, none⟩), .agg #[.int .i64 o.f0, .int .i64 o.f1, .int .i64 o.f2, .int .u32 o.f3, .int .i64 o.f4, .int .i64 o.f5]] w fun e w' => (e = .returned (.int .i64 (opN l (nmO tv o)).1) ∧ ∃ v1', Hid (ShS N B w' gs gc v0 v2 vt G (opN l (nmO tv o)).2 tv v1' (stO (opN l (nmO tv o)).2).2)) ∧ Below N w w' := by
 have H0 := Lib.hid H
 obtain ⟨A1, c1, rfl, hlc1, hC1⟩ := Kd.qP H.l
 obtain ⟨A2, c2, rfl, hlc2, hC2⟩ := Kd.qP H.t
 have HC1 := Lib.hid hC1
 have HC2 := Lib.hid hC2
 have x0 := H.c.s0
 have x1 := H.c.s1
 have x2 := H.c.s2
 have x3 := H.c.c1
 have hgs : gs < w.heap.size := H.c.lts
 have hgc : gc < w.heap.size := H.c.ltc
 have hn0 : ¬ gs = w.heap.size := by omega
 have hn1 : ¬ gc = w.heap.size := by omega
 have hcode := nmO_code tv o
 clear H hC1 hC2
 have hcase : (o.f0 = 3 ∧ nmO tv o = ⟨o.f0, rd tv o.f1, rd tv o.f2, o.f3, o.f4, o.f5⟩) ∨ (o.f0 = 5 ∧ nmO tv o = ⟨o.f0, rd tv o.f1, rd tv o.f2, o.f3, o.f4, o.f5⟩) ∨ (o.f0 = 6 ∧ nmO tv o = ⟨o.f0, rd tv o.f1, rd tv o.f2, o.f3, o.f4, o.f5⟩) ∨ (o.f0 = 4 ∧ nmO tv o = ⟨o.f0, rd tv o.f1, o.f2, o.f3, o.f4, o.f5⟩) ∨ ((o.f0 ≠ 3 ∧ o.f0 ≠ 5 ∧ o.f0 ≠ 6 ∧ o.f0 ≠ 4) ∧ nmO tv o = ⟨o.f0, o.f1, o.f2, o.f3, o.f4, o.f5⟩) := by
  unfold nmO
  by_cases h3 : o.f0 = 3
  ·exact .inl ⟨h3, by rw [if_pos (.inl h3)]⟩
  by_cases h5 : o.f0 = 5
  ·exact .inr (.inl ⟨h5, by rw [if_pos (.inr (.inl h5))]⟩)
  by_cases h6 : o.f0 = 6
  ·exact .inr (.inr (.inl ⟨h6, by rw [if_pos (.inr (.inr h6))]⟩))
  by_cases h4 : o.f0 = 4
  ·exact .inr (.inr (.inr (.inl ⟨h4, by rw [if_neg (by omega), if_pos h4]⟩)))
  ·exact .inr (.inr (.inr (.inr ⟨⟨h3, h5, h6, h4⟩, by rw [if_neg (by omega), if_neg h4]⟩)))
 have HF := Lib.hid (fun v (hb : Below w.heap.size w v) => (shfind_c l hl (nmO tv o) (stO l).2 gs gc A1 c1 v (cellk hb x0) (cellk hb x2) (cellk hb x3) (Kd.qp HC1.out hb)).mono fun e w' (h : e = .returned (.int .i64 (fndF alikeB (if (nmO tv o).f0 = 4 then (stO l).2 else 0) (nmO tv o) l).2) ∧ Below v.heap.size v w') => (show e = .returned (.int .i64 (fndR alikeB (nmO tv o) l).2) ∧ Below v.heap.size v w' from ⟨by rw [h.1, fnd_eq], h.2⟩))
 obtain ⟨r1, r2⟩ : -1 ≤ (fndR alikeB (nmO tv o) l).2 ∧ (fndR alikeB (nmO tv o) l).2 < l.length := by rw [fnd_eq]; exact fndF_range _ _ _ _
 have hO : (0 ≤ (fndR alikeB (nmO tv o) l).2 ∧ (opN l (nmO tv o)).1 = (fndR alikeB (nmO tv o) l).2 ∧ (opN l (nmO tv o)).2 = l) ∨ ((fndR alikeB (nmO tv o) l).2 = -1 ∧ (opN l (nmO tv o)).1 = (l.length : Int) ∧ (opN l (nmO tv o)).2 = l ++ [nmO tv o]) := by
  unfold opN
  by_cases h : 0 ≤ (fndR alikeB (nmO tv o) l).2
  ·rw [if_pos h]; exact .inl ⟨h, rfl, rfl⟩
  ·rw [if_neg h]; exact .inr ⟨by omega, rfl, rfl⟩
 clear r1 r2 x2 x3 HC1
 generalize hqq : nmO tv o = q at *
 generalize (fndR alikeB q l).2 = F at *
 generalize (opN l q).1 = OP at *
 generalize (opN l q).2 = OL at *
 go_enter Try.func62, Try.ntmps62
 go_upto_block 0 with fail
 go_cut [] from 6 to 31 (fun wx => Hid (Below w.heap.size w wx) ∧ wx.cell? ⟨w.heap.size, 0, none⟩ = some (.int .i64 q.f0) ∧ wx.cell? ⟨w.heap.size, 1, none⟩ = some (.int .i64 q.f1) ∧ wx.cell? ⟨w.heap.size, 2, none⟩ = some (.int .i64 q.f2) ∧ wx.cell? ⟨w.heap.size, 3, none⟩ = some (.int .u32 q.f3) ∧ wx.cell? ⟨w.heap.size, 4, none⟩ = some (.int .i64 q.f4) ∧ wx.cell? ⟨w.heap.size, 5, none⟩ = some (.int .i64 q.f5))
 case first =>
  clear HF hO x0 hcode
  rcases hcase with ⟨h, hq⟩ | ⟨h, hq⟩ | ⟨h, hq⟩ | ⟨h, hq⟩ | ⟨h, hq⟩
  ·-- 3
   have t3 : (o.f0 == 3) = true := beq_iff_eq.2 h
   have t5 : (o.f0 == 5) = false := beq_eq_false_iff_ne.2 (by omega)
   have t6 : (o.f0 == 6) = false := beq_eq_false_iff_ne.2 (by omega)
   have t4 : (o.f0 == 4) = false := beq_eq_false_iff_ne.2 (by omega)
   obtain ⟨a1, b1⟩ := h1 (by omega)
   obtain ⟨a2, b2⟩ := h2 (by omega)
   obtain ⟨g2, cap2, hv2, -, hg2, -⟩ := Kd.R_form H0.out.t (by omega)
   cases hv2
   have hg2n : ¬ g2 = w.heap.size := by omega
   obtain ⟨ad, had, d1⟩ := Kd.at_int HC2.out o.f1 a1 b1
   cases had
   rw [add_plain] at d1
   obtain ⟨ad, had, d2⟩ := Kd.at_int HC2.out o.f2 a2 b2
   cases had
   rw [add_plain] at d2
   clear h1 h2 h H0 HC2
   subst hq
   generalize rd tv o.f1 = y1 at *
   generalize rd tv o.f2 = y2 at *
   go_wp2_with fail
   go_region_law (fail)
   all_goals
    go_wp2_with fail
    go_region_law (fail)
    all_goals
     go_wp2_with fail
     go_meet
     exact ⟨Lib.hid (by repeat (first | (with_reducible exact Below.refl _ _) | (with_reducible refine bal ?_ _) | (with_reducible refine bset ?_ (by simp) _) | (with_reducible refine below_drew ?_) | (with_reducible refine bdn ?_ _))), by simp [go_sem], by simp [go_sem], by simp [go_sem], by simp [go_sem], by simp [go_sem], by simp [go_sem]⟩
  ·-- 5
   have t3 : (o.f0 == 3) = false := beq_eq_false_iff_ne.2 (by omega)
   have t5 : (o.f0 == 5) = true := beq_iff_eq.2 h
   have t6 : (o.f0 == 6) = false := beq_eq_false_iff_ne.2 (by omega)
   have t4 : (o.f0 == 4) = false := beq_eq_false_iff_ne.2 (by omega)
   obtain ⟨a1, b1⟩ := h1 (by omega)
   obtain ⟨a2, b2⟩ := h2 (by omega)
   obtain ⟨g2, cap2, hv2, -, hg2, -⟩ := Kd.R_form H0.out.t (by omega)
   cases hv2
   have hg2n : ¬ g2 = w.heap.size := by omega
   obtain ⟨ad, had, d1⟩ := Kd.at_int HC2.out o.f1 a1 b1
   cases had
   rw [add_plain] at d1
   obtain ⟨ad, had, d2⟩ := Kd.at_int HC2.out o.f2 a2 b2
   cases had
   rw [add_plain] at d2
   clear h1 h2 h H0 HC2
   subst hq
   generalize rd tv o.f1 = y1 at *
   generalize rd tv o.f2 = y2 at *
   go_wp2_with fail
   go_region_law (fail)
   all_goals
    go_wp2_with fail
    go_region_law (fail)
    all_goals
     go_wp2_with fail
     go_meet
     exact ⟨Lib.hid (by repeat (first | (with_reducible exact Below.refl _ _) | (with_reducible refine bal ?_ _) | (with_reducible refine bset ?_ (by simp) _) | (with_reducible refine below_drew ?_) | (with_reducible refine bdn ?_ _))), by simp [go_sem], by simp [go_sem], by simp [go_sem], by simp [go_sem], by simp [go_sem], by simp [go_sem]⟩
  ·-- 6
   have t3 : (o.f0 == 3) = false := beq_eq_false_iff_ne.2 (by omega)
   have t5 : (o.f0 == 5) = false := beq_eq_false_iff_ne.2 (by omega)
   have t6 : (o.f0 == 6) = true := beq_iff_eq.2 h
   have t4 : (o.f0 == 4) = false := beq_eq_false_iff_ne.2 (by omega)
   obtain ⟨a1, b1⟩ := h1 (by omega)
   obtain ⟨a2, b2⟩ := h2 (by omega)
   obtain ⟨g2, cap2, hv2, -, hg2, -⟩ := Kd.R_form H0.out.t (by omega)
   cases hv2
   have hg2n : ¬ g2 = w.heap.size := by omega
   obtain ⟨ad, had, d1⟩ := Kd.at_int HC2.out o.f1 a1 b1
   cases had
   rw [add_plain] at d1
   obtain ⟨ad, had, d2⟩ := Kd.at_int HC2.out o.f2 a2 b2
   cases had
   rw [add_plain] at d2
   clear h1 h2 h H0 HC2
   subst hq
   generalize rd tv o.f1 = y1 at *
   generalize rd tv o.f2 = y2 at *
   go_wp2_with fail
   go_region_law (fail)
   all_goals
    go_wp2_with fail
    go_region_law (fail)
    all_goals
     go_wp2_with fail
     go_meet
     exact ⟨Lib.hid (by repeat (first | (with_reducible exact Below.refl _ _) | (with_reducible refine bal ?_ _) | (with_reducible refine bset ?_ (by simp) _) | (with_reducible refine below_drew ?_) | (with_reducible refine bdn ?_ _))), by simp [go_sem], by simp [go_sem], by simp [go_sem], by simp [go_sem], by simp [go_sem], by simp [go_sem]⟩
  ·-- 4
   have t3 : (o.f0 == 3) = false := beq_eq_false_iff_ne.2 (by omega)
   have t5 : (o.f0 == 5) = false := beq_eq_false_iff_ne.2 (by omega)
   have t6 : (o.f0 == 6) = false := beq_eq_false_iff_ne.2 (by omega)
   have t4 : (o.f0 == 4) = true := beq_iff_eq.2 h
   obtain ⟨a1, b1⟩ := h1 (by omega)
   obtain ⟨g2, cap2, hv2, -, hg2, -⟩ := Kd.R_form H0.out.t (by omega)
   cases hv2
   have hg2n : ¬ g2 = w.heap.size := by omega
   obtain ⟨ad, had, d1⟩ := Kd.at_int HC2.out o.f1 a1 b1
   cases had
   rw [add_plain] at d1
   clear h1 h2 h H0 HC2
   subst hq
   generalize rd tv o.f1 = y1 at *
   go_wp2_with fail
   go_region_law (fail)
   all_goals
    go_wp2_with fail
    go_meet
    exact ⟨Lib.hid (by repeat (first | (with_reducible exact Below.refl _ _) | (with_reducible refine bal ?_ _) | (with_reducible refine bset ?_ (by simp) _) | (with_reducible refine below_drew ?_) | (with_reducible refine bdn ?_ _))), by simp [go_sem], by simp [go_sem], by simp [go_sem], by simp [go_sem], by simp [go_sem], by simp [go_sem]⟩
  ·-- else
   have t3 : (o.f0 == 3) = false := beq_eq_false_iff_ne.2 h.1
   have t5 : (o.f0 == 5) = false := beq_eq_false_iff_ne.2 h.2.1
   have t6 : (o.f0 == 6) = false := beq_eq_false_iff_ne.2 h.2.2.1
   have t4 : (o.f0 == 4) = false := beq_eq_false_iff_ne.2 h.2.2.2
   clear h1 h2 h H0 HC2
   subst hq
   go_wp2_with fail
   go_meet
   exact ⟨Lib.hid (by repeat (first | (with_reducible exact Below.refl _ _) | (with_reducible refine bal ?_ _) | (with_reducible refine bset ?_ (by simp) _) | (with_reducible refine below_drew ?_) | (with_reducible refine bdn ?_ _))), by simp [go_sem], by simp [go_sem], by simp [go_sem], by simp [go_sem], by simp [go_sem], by simp [go_sem]⟩
 case rest =>
  obtain ⟨HBC, z0, z1, z2, z3, z4, z5⟩ := hcut
  have hcase' : (q.f0 = 5 ∧ (stO (l ++ [q])).2 = (l.length : Int) + 1) ∨ (q.f0 ≠ 5 ∧ (stO (l ++ [q])).2 = (stO l).2) := by
   rw [stO_add, stO_len]
   by_cases h : q.f0 = 5
   ·exact .inl ⟨h, if_pos h⟩
   ·exact .inr ⟨h, if_neg h⟩
  clear hcase h1 h2 hcode hqq
  obtain ⟨f0, f1, f2, f3, f4, f5⟩ := q
  simp only at z0 z1 z2 z3 z4 z5 HF hcase'
  go_wp2_with fail
  refine (HF.out _ HBC.out).mono ?_
  rintro e w1 ⟨rfl, hb1⟩
  have b0 := cellk hb1 z0
  have b1 := cellk hb1 z1
  have b2 := cellk hb1 z2
  have b3 := cellk hb1 z3
  have b4 := cellk hb1 z4
  have b5 := cellk hb1 z5
  have HB1 := Lib.hid (bthen HBC.out hb1)
  have hsz : w.heap.size < w1.heap.size := World.block_lt_of_cell? w1 ⟨w.heap.size, 0, none⟩ b0
  have HS1 := Lib.hid (H0.out.below HB1.out)
  clear hb1 HF z0 z1 z2 z3 z4 z5 HBC
  rcases hO with ⟨hF, hO1, hO2⟩ | ⟨rfl, rfl, rfl⟩
  ·have tF : decide (F ≥ 0) = true := decide_eq_true hF
   subst hO1 hO2
   go_wp2
   go_ret
   exact ⟨⟨rfl, _, HS1⟩, HB1.out.mono hN⟩
  ·have e0 := HS1.out.c.s0
   have e1 := HS1.out.c.c1
   have ef := HS1.out.c.fc 1
   have hc1 : gc < w1.heap.size := HS1.out.c.ltc
   have hs1 : gs < w1.heap.size := HS1.out.c.lts
   have hnc : ¬ gc = w1.heap.size := by omega
   have hnd : ¬ gs = w1.heap.size := by omega
   have hnb : ¬ w.heap.size = gc := by omega
   have hnb2 : ¬ w.heap.size = gs := by omega
   have hnb3 : ¬ w.heap.size = w1.heap.size := by omega
   have hns : ¬ gs = gc := HS1.out.c.ne
   have HS1' := Lib.hid (HS1.out.below (bdn (Below.refl _ _) 1))
   have HN1 := Lib.hid (bthen HB1.out (bdn (Below.refl w1.heap.size w1) 1))
   have HLEN := Lib.hid (show (l ++ [(⟨f0, f1, f2, f3, f4, f5⟩ : S66)]).length = l.length + 1 by simp)
   have HNE := Lib.hid (show some w.heap.size ≠ (Value.slice A1 l.length c1).ownBlock from fun e => by have := Kd.R_lt H0.out.l _ e.symm; omega)
   clear H0 x0 x1 HC2
   go_upto_region 11 with fail
   go_cut [] from 38 to 53 (fun wx => (∃ A3 c3, Hid (ShS N B wx gs gc v0 v2 (.slice A2 tv.length c2) G (l ++ [(⟨f0, f1, f2, f3, f4, f5⟩ : S66)]) tv (.slice A3 (l.length + 1) c3) (stO l).2)) ∧ wx.cell? ⟨w.heap.size, 0, none⟩ = some (.int .i64 f0) ∧ Hid (Below N w wx))
   case first =>
    go_region_law (refine Kd.R_append_step k66 (w0 := w) N rfl (.tmp 48) (.tmp 50) 67 66 (.agg #[.int .i64 0, .int .i64 0, .int .i64 0, .int .u32 0, .int .i64 0, .int .i64 0]) 48 rfl Try.underlying67 infoOp rfl (by decide) (by decide) (.slice A1 l.length c1) l ⟨f0, f1, f2, f3, f4, f5⟩ [.int .i64 f0, .int .i64 f1, .int .i64 f2, .int .u32 f3, .int .i64 f4, .int .i64 f5] (fun _ => True) (fun _ => False) rfl rfl (k66_mkM _ _ _ _) (fun _ hk => hk.elim) (fun _ _ => trivial) HS1'.out.l (HN1.out.mono hN) (Nat.le_trans hN HN1.out.size) (by omega) ?_; intro v3 w3 ho3 hb3 hg3 hat3; obtain ⟨A3, c3, hv3⟩ := Kd.R_slice ho3; rw [HLEN.out] at hv3; subst hv3; have HS3 := Lib.hid (HS1'.out.over ho3 hg3); have e5 := HS3.out.c.c1; have e6 := HS3.out.c.fc 1; have e7 := HS3.out.c.s0; have b0' := (World.cell?_of_block (a := ⟨w.heap.size, 0, none⟩) (hg3.block w.heap.size hsz HNE.out)).trans b0; have HB3 := Lib.hid hb3; clear ho3 hb3 hg3 hat3)
    all_goals
     go_wp2_with fail
     go_meet
     exact ⟨⟨_, _, Lib.hid HS3.out.done⟩, (World.cell?_of_block (a := ⟨w.heap.size, 0, none⟩) (Below.heap_setCell _ ⟨gc, 1, none⟩ _ w.heap.size hnb)).trans b0', Lib.hid (HB3.out.setCell HS3.out.c.nc _)⟩
   case rest =>
    obtain ⟨⟨A3, c3, HS3⟩, b0', HB3⟩ := hcut
    clear e0 e1 ef HS1 HS1' HN1 HB1 b0 b1 b2 b3 b4 b5
    have e5 := HS3.out.c.c1
    have e7 := HS3.out.c.s0
    have e8 := HS3.out.c.fs 2
    have e9 := HS3.out.c.s2
    rcases hcase' with ⟨rfl, tst⟩ | ⟨h5, tst⟩
    ·have HF := Lib.hid (fun s => HS3.out.stored s)
     have HFB := Lib.hid (fun u => HB3.out.setCell (p := ⟨gs, 2, none⟩) HS3.out.c.ns u)
     go_wp2
     go_ret
     exact ⟨⟨by simp, _, Lib.hid (by rw [tst]; exact HF.out _)⟩, HFB.out _⟩
    ·have t5 : (f0 == 5) = false := beq_eq_false_iff_ne.2 h5
     go_wp2
     go_ret
     exact ⟨⟨by simp, _, Lib.hid (by rw [tst]; exact HS3.out)⟩, HB3.out⟩
end Go.Proofs.Ytlnbghhhifnbdaa
