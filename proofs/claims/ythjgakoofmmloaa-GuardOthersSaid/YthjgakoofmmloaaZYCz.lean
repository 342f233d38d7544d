/- ir.Clone again, with what it makes in sight. Conditions: the block reads as the given one, its lists have at most a million entries. -/
import Derived.Test.YthjgakoofmmloaaZYSz
import Derived.Test.YthjgakoofmmloaaZWApart
import Derived.Lib.BufferMore
import Derived.Deep.Slices
import Derived.Test.YthjgakoofmmloaaZYTz
import Derived.Test.YthjgakoofmmloaaZWShare
import Derived.Deep.RegionLaw
namespace Go.Proofs.Ythjgakoofmmloaa
open Go.RowKit Go.Deep Go.Proofs.YthjgakoofmmloaaW.PrintWords Go.Proofs.YthjgakoofmmloaaW.PrintMore Go.Proofs.Ythjgakoofmmloaa.PNumberDoes
set_option linter.unusedVariables false
set_option linter.unusedSimpArgs false

theorem infoU32 : (Try.prog.info? 27).map (fun i => (i.zero, i.size, i.bytes)) = some (some (.int .u32 0), 1, 4) := by kernel_rfl
theorem R_empty {α : Type} (d : Kd α) (e base : Nat) (w : World) (hb : base ≤ w.heap.size) : d.R e (w.alloc (.cells #[] e)) base (fun _ => True) (.slice (some ⟨w.heap.size, 0, none⟩) 0 0) [] :=
 ⟨fun _ _ => trivial, [], ⟨by simp, .inr ⟨w.heap.size, 0, #[], rfl, hb, qD _ _, Nat.le_refl _, Nat.zero_le _, by simp, by simp⟩⟩, Reps.none _ _⟩
def exCs (u : Value) (x : S73) : List Value := [.int .i64 x.f0, .int .u32 x.f1, .int .i64 x.f2, .int .i64 x.f3, u]
instance : Inhabited Value := ⟨undef⟩
set_option maxHeartbeats 4000000 in
set_option maxRecDepth 100000 in
theorem clone_u (A : Option Addr) (c n : Nat) (xs : List Int) (hx : n ≤ 1000000) (w : World) (hC : (Kd.int .u32).C w A n xs) :
  Calls Try.prog 75 #[.slice A n c] w fun e w' => (∃ v, e = .returned v ∧ Kd.R (Kd.int .u32) 27 w' w.heap.size (fun _ => True) v xs) ∧ Below w.heap.size w w' := by
 have hn : xs.length = n := hC.1
 rcases A with _ | ad
 ·have h0 : n = 0 := by
   rcases Nat.eq_zero_or_pos n with h0 | h0
   ·exact h0
   ·obtain ⟨ad, h, _⟩ := hC.2.2 h0
    cases h
  subst h0
  obtain rfl : xs = [] := List.eq_nil_of_length_eq_zero hn
  clear hC
  have hE := fun v => Go.Lib.run_eql_slice_nil_nil (P := Try.prog) v 0 c Try.underlying22
  go_enter Try.func75, Try.ntmps75
  go_wp2
  go_ret
  exact ⟨⟨_, rfl, Kd.R_nil _ _ _ _ _⟩, Below.refl _ _⟩
 ·have HC := Lib.hid hC
  clear hC
  have hE := fun v => Go.Lib.run_eql_slice_some_nil (P := Try.prog) v ad n c Try.underlying22
  go_enter Try.func75, Try.ntmps75
  go_wp2_with (at_builtin; refine Kd.R_append_rows (Kd.int .u32) (w0 := w) w.heap.size rfl _ _ 22 27 (.int .u32 0) 4 rfl Try.underlying22 infoU32 rfl (by decide) (by decide) (.slice (some ⟨w.heap.size, 0, none⟩) 0 0) [] xs (some ad) n c (fun _ => True) (fun _ => False) rfl rfl (R_empty (Kd.int .u32) 27 w.heap.size w (Nat.le_refl _)) (Kd.qn HC.out (bal (Below.refl _ _) _)) (fun _ _ h => h) (fun _ hk => hk.elim) (fun _ _ => trivial) (bal (Below.refl _ _) _) (bal (Below.refl w.heap.size w) _).size (by simp; omega) ?_)
  intro v1 w1 hr hb hg hat
  have HR := Lib.hid hr
  have HB := Lib.hid hb
  clear hr hb hg hat
  go_wp2
  go_ret
  exact ⟨⟨_, rfl, HR.out⟩, HB.out⟩
set_option maxHeartbeats 4000000 in
set_option maxRecDepth 100000 in
theorem clone_v (A : Option Addr) (c n : Nat) (xs : List S70) (hx : n ≤ 1000000) (w : World) (hC : k70.C w A n xs) :
  Calls Try.prog 102 #[.slice A n c] w fun e w' => (∃ v, e = .returned v ∧ Kd.R k70 70 w' w.heap.size (fun _ => True) v xs) ∧ Below w.heap.size w w' := by
 have hn : xs.length = n := hC.1
 rcases A with _ | ad
 ·have h0 : n = 0 := by
   rcases Nat.eq_zero_or_pos n with h0 | h0
   ·exact h0
   ·obtain ⟨ad, h, _⟩ := hC.2.2 h0
    cases h
  subst h0
  obtain rfl : xs = [] := List.eq_nil_of_length_eq_zero hn
  clear hC
  have hE := fun v => Go.Lib.run_eql_slice_nil_nil (P := Try.prog) v 0 c Try.underlying71
  go_enter Try.func102, Try.ntmps102
  go_wp2
  go_ret
  exact ⟨⟨_, rfl, Kd.R_nil _ _ _ _ _⟩, Below.refl _ _⟩
 ·have HC := Lib.hid hC
  clear hC
  have hE := fun v => Go.Lib.run_eql_slice_some_nil (P := Try.prog) v ad n c Try.underlying71
  go_enter Try.func102, Try.ntmps102
  go_wp2_with (at_builtin; refine Kd.R_append_rows k70 (w0 := w) w.heap.size rfl _ _ 71 70 (.agg #[.int .i64 0, .int .i64 0]) 16 rfl Try.underlying71 infoVal rfl (by decide) (by decide) (.slice (some ⟨w.heap.size, 0, none⟩) 0 0) [] xs (some ad) n c (fun _ => True) (fun _ => False) rfl rfl (R_empty k70 70 w.heap.size w (Nat.le_refl _)) (Kd.qn HC.out (bal (Below.refl _ _) _)) (fun _ _ h => by rw [k70_open h]; exact k70_mkM _ _ _ _) (fun _ hk => hk.elim) (fun _ _ => trivial) (bal (Below.refl _ _) _) (bal (Below.refl w.heap.size w) _).size (by simp; omega) ?_)
  intro v1 w1 hr hb hg hat
  have HR := Lib.hid hr
  have HB := Lib.hid hb
  clear hr hb hg hat
  go_wp2
  go_ret
  exact ⟨⟨_, rfl, HR.out⟩, HB.out⟩
end Go.Proofs.Ythjgakoofmmloaa

namespace Go.Proofs.Ythjgakoofmmloaa
open Go.RowKit Go.Proofs.YthjgakoofmmloaaW.PrintWords Go.Proofs.YthjgakoofmmloaaW.PrintMore Go.Proofs.Ythjgakoofmmloaa.PNumberDoes
set_option linter.unusedVariables false
set_option linter.unusedSimpArgs false

def PartP (N : Nat) (B : BlkV) (v : Value) (w : World) : Prop := Kd.R (Kd.int .u32) 27 w N (fun _ => True) v B.pcs
def PartO (N : Nat) (B : BlkV) (v : Value) (w : World) : Prop := Kd.R k67 67 w N (fun _ => True) v B.ops
def PartE (N : Nat) (w0 : World) (B : BlkV) (v : Value) (w : World) : Prop := ∃ us : List Value, us.length = B.exits.length ∧ Kd.R (Kd.raw 5) 73 w N (fun _ => True) v (List.zipWith exCs us B.exits) ∧ ∀ (i : Nat) (u : Value) (x : S73), us[i]? = some u → B.exits[i]? = some x → ∃ A4 c4, u = .slice A4 x.f4.length c4 ∧ k70.C w0 A4 x.f4.length x.f4
def PartB (N : Nat) (w0 : World) (B : BlkV) (v : Value) (w : World) : Prop := ∃ v0 v1 v2, v = .agg #[v0, v1, v2, .int .i64 B.last] ∧ PartP N B v0 w ∧ PartO N B v1 w ∧ PartE N w0 B v2 w
def PartX (N : Nat) (w0 : World) (B : BlkV) (v : Value) (w : World) : Prop := ∃ g v0 v1 v2, v = .pointer (some ⟨g, 0, none⟩) ∧ N ≤ g ∧ w.heap[g]? = some (.cells #[v0, v1, v2, .int .i64 B.last] 76 (0, 0)) ∧ PartP N B v0 w ∧ PartO N B v1 w ∧ PartE N w0 B v2 w
section
variable {N : Nat} {w0 : World} {B : BlkV}
theorem PartP.keep (v : Value) (w1 w2 : World) (h : PartP N B v w1) (hb : Below w1.heap.size w1 w2) : PartP N B v w2 := Kd.qO h hb
theorem PartO.keep (v : Value) (w1 w2 : World) (h : PartO N B v w1) (hb : Below w1.heap.size w1 w2) : PartO N B v w2 := Kd.qO h hb
theorem PartE.keep (v : Value) (w1 w2 : World) (h : PartE N w0 B v w1) (hb : Below w1.heap.size w1 w2) : PartE N w0 B v w2 := by
 obtain ⟨us, a, b, c⟩ := h
 exact ⟨us, a, Kd.qO b hb, c⟩
theorem PartB.keep (v : Value) (w1 w2 : World) (h : PartB N w0 B v w1) (hb : Below w1.heap.size w1 w2) : PartB N w0 B v w2 := by
 obtain ⟨v0, v1, v2, a, b, c, d⟩ := h
 exact ⟨v0, v1, v2, a, PartP.keep _ _ _ b hb, PartO.keep _ _ _ c hb, PartE.keep _ _ _ d hb⟩
theorem PartX.keep (v : Value) (w1 w2 : World) (h : PartX N w0 B v w1) (hb : Below w1.heap.size w1 w2) : PartX N w0 B v w2 := by
 obtain ⟨g, v0, v1, v2, a, hg, hh, b, c, d⟩ := h
 exact ⟨g, v0, v1, v2, a, hg, qo hh hb, PartP.keep _ _ _ b hb, PartO.keep _ _ _ c hb, PartE.keep _ _ _ d hb⟩
end
structure CSt (w wr : World) (B : BlkV) (gc h : Nat) (v0 v1 : Value) (cap k : Nat) : Prop where
 bel : Below w.heap.size w wr
 gcN : w.heap.size ≤ gc
 hN : w.heap.size ≤ h
 blk : wr.heap[gc]? = some (.cells #[v0, v1, .slice (some ⟨h, 0, none⟩) B.exits.length cap, .int .i64 B.last] 76 (0, 0))
 r0 : PartP w.heap.size B v0 wr
 r1 : PartO w.heap.size B v1 wr
 hb : ∃ cur, wr.heap[h]? = some (.cells cur 73 (0, 0))
 el : ∀ (i : Nat) (x : S73), B.exits[i]? = some x → wr.cell? ⟨h, i * 5, none⟩ = some (.int .i64 x.f0) ∧ wr.cell? ⟨h, i * 5 + 1, none⟩ = some (.int .u32 x.f1) ∧ wr.cell? ⟨h, i * 5 + 2, none⟩ = some (.int .i64 x.f2) ∧ wr.cell? ⟨h, i * 5 + 3, none⟩ = some (.int .i64 x.f3) ∧
  ∃ u, wr.cell? ⟨h, i * 5 + 4, none⟩ = some u ∧ ((i < k ∧ Kd.R k70 70 wr w.heap.size (fun _ => True) u x.f4) ∨ (k ≤ i ∧ ∃ A4 c4, u = .slice A4 x.f4.length c4 ∧ k70.C w A4 x.f4.length x.f4))
theorem CSt.below {w wr w1 : World} {B : BlkV} {gc h : Nat} {v0 v1 : Value} {cap k : Nat} (s : CSt w wr B gc h v0 v1 cap k) (hb : Below wr.heap.size wr w1) : CSt w w1 B gc h v0 v1 cap k := by
 obtain ⟨cur, hc⟩ := s.hb
 refine ⟨bthen s.bel hb, s.gcN, s.hN, qo s.blk hb, PartP.keep _ _ _ s.r0 hb, PartO.keep _ _ _ s.r1 hb, ⟨cur, qo hc hb⟩, fun i x hx => ?_⟩
 obtain ⟨a, b, c, d, u, hu, hr⟩ := s.el i x hx
 refine ⟨cellk hb a, cellk hb b, cellk hb c, cellk hb d, u, cellk hb hu, ?_⟩
 rcases hr with ⟨hk, hr⟩ | hr
 ·exact .inl ⟨hk, Kd.qO hr hb⟩
 ·exact .inr hr
end Go.Proofs.Ythjgakoofmmloaa

namespace Go.Proofs.Ythjgakoofmmloaa
open Go.RowKit Go.Proofs.YthjgakoofmmloaaW.PrintWords Go.Proofs.YthjgakoofmmloaaW.PrintMore Go.Proofs.Ythjgakoofmmloaa.PNumberDoes
set_option linter.unusedVariables false
set_option linter.unusedSimpArgs false

theorem zip_at {us : List Value} {xs : List S73} (i : Nat) (x : S73) (hl : us.length = xs.length) (hx : xs[i]? = some x) : ∃ u, us[i]? = some u ∧ (List.zipWith exCs us xs)[i]? = some (exCs u x) := by
 have hi : i < us.length := by rw [hl]; exact (List.getElem?_eq_some_iff.1 hx).1
 exact ⟨us[i], List.getElem?_eq_getElem hi, by rw [List.getElem?_zipWith, List.getElem?_eq_getElem hi, hx]⟩
theorem PartX.start {w wr : World} {B : BlkV} {v : Value} (h : PartX w.heap.size w B v wr) (hb : Below w.heap.size w wr) (hp : 0 < B.exits.length) : ∃ gc g v0 v1 cap, v = .pointer (some ⟨gc, 0, none⟩) ∧ CSt w wr B gc g v0 v1 cap 0 := by
 obtain ⟨gc, v0, v1, v2, rfl, hg, hh, r0, r1, us, hl, r2, hall⟩ := h
 have hzl : (List.zipWith exCs us B.exits).length = B.exits.length := by simp [hl]
 obtain ⟨g, cap, hv, hN, hlt, cells, hc⟩ := Kd.R_form r2 (by rw [hzl]; exact hp)
 obtain ⟨A, c, hv2, -, hC⟩ := Kd.R_reads r2
 rw [hv] at hv2
 rw [hzl] at hv hC
 cases hv2
 subst hv
 refine ⟨gc, g, v0, v1, cap, rfl, hb, hg, hN, hh, r0, r1, ⟨cells, hc⟩, fun i x hx => ?_⟩
 obtain ⟨u, hu, hz⟩ := zip_at i x hl hx
 obtain ⟨ad, had, hcell⟩ := hC.2.2 hp
 cases had
 obtain ⟨cs, -, hK, hce⟩ := hcell i _ hz
 obtain rfl : cs = exCs u x := hK.1
 obtain ⟨A4, c4, rfl, h4⟩ := hall i u x hu hx
 have hq : ∀ j v, (exCs (.slice A4 x.f4.length c4) x)[j]? = some v → wr.cell? ⟨g, i * 5 + j, none⟩ = some v := fun j v hv => by
  have := hce j v hv
  rw [qI] at this
  exact this
 exact ⟨hq 0 _ rfl, hq 1 _ rfl, hq 2 _ rfl, hq 3 _ rfl, _, hq 4 _ rfl, .inr ⟨Nat.zero_le _, A4, c4, rfl, h4⟩⟩
section
variable {w wr : World} {B : BlkV} {gc h : Nat} {v0 v1 : Value} {cap k : Nat}
theorem CSt.c2 (s : CSt w wr B gc h v0 v1 cap k) : wr.cell? ⟨gc, 2, none⟩ = some (.slice (some ⟨h, 0, none⟩) B.exits.length cap) := by rw [qb s.blk]; rfl
theorem CSt.lt (s : CSt w wr B gc h v0 v1 cap k) : h < wr.heap.size := by
 obtain ⟨cur, hc⟩ := s.hb
 exact qG hc
theorem CSt.m (s : CSt w wr B gc h v0 v1 cap k) (hk : k < B.exits.length) : ∃ A4 c4, wr.cell? ⟨h, k * 5 + 4, none⟩ = some (.slice A4 B.exits[k].f4.length c4) ∧ k70.C wr A4 B.exits[k].f4.length B.exits[k].f4 := by
 obtain ⟨-, -, -, -, u, hu, hr⟩ := s.el k _ (List.getElem?_eq_getElem hk)
 rcases hr with ⟨hlt, _⟩ | ⟨_, A4, c4, rfl, hC⟩
 ·omega
 ·exact ⟨A4, c4, hu, Kd.qn hC s.bel⟩
end
theorem PartP.form {N : Nat} {B : BlkV} {v : Value} {w : World} (h : PartP N B v w) : ∃ A c, v = .slice A B.pcs.length c := Kd.R_slice h
theorem PartO.form {N : Nat} {B : BlkV} {v : Value} {w : World} (h : PartO N B v w) : ∃ A c, v = .slice A B.ops.length c := Kd.R_slice h
theorem PartE.form {N : Nat} {w0 : World} {B : BlkV} {v : Value} {w : World} (h : PartE N w0 B v w) : ∃ A c, v = .slice A B.exits.length c := by
 obtain ⟨us, a, b, c⟩ := h
 obtain ⟨A, c, h⟩ := Kd.R_slice b
 exact ⟨A, c, by rw [h]; simp [a]⟩
end Go.Proofs.Ythjgakoofmmloaa

namespace Go.Proofs.Ythjgakoofmmloaa
open Go.RowKit Go.Proofs.YthjgakoofmmloaaW.PrintWords Go.Proofs.YthjgakoofmmloaaW.PrintMore Go.Proofs.Ythjgakoofmmloaa.PNumberDoes
set_option linter.unusedVariables false
set_option linter.unusedSimpArgs false

structure ExAt (N : Nat) (w : World) (h : Nat) (G : Nat → Nat) (xs : List S73) : Prop where
 hN : N ≤ h
 hb : ∃ cur, w.heap[h]? = some (.cells cur 73 (0, 0))
 el : ∀ (i : Nat) (x : S73), xs[i]? = some x → w.cell? ⟨h, i * 5, none⟩ = some (.int .i64 x.f0) ∧ w.cell? ⟨h, i * 5 + 1, none⟩ = some (.int .u32 x.f1) ∧ w.cell? ⟨h, i * 5 + 2, none⟩ = some (.int .i64 x.f2) ∧ w.cell? ⟨h, i * 5 + 3, none⟩ = some (.int .i64 x.f3) ∧
  ∃ A c, w.cell? ⟨h, i * 5 + 4, none⟩ = some (.slice A x.f4.length c) ∧ x.f4.length ≤ c ∧ (0 < x.f4.length → A = some ⟨G i, 0, none⟩)
 mp : ∀ (i : Nat) (x : S73), xs[i]? = some x → 0 < x.f4.length → N ≤ G i ∧ (∃ cur, w.heap[G i]? = some (.cells cur 70 (0, 0))) ∧ ∀ (m : Nat) (v : S70), x.f4[m]? = some v → w.cell? ⟨G i, m * 2, none⟩ = some (.int .i64 v.f0) ∧ w.cell? ⟨G i, m * 2 + 1, none⟩ = some (.int .i64 v.f1)
 ds : ∀ (i j : Nat) (x y : S73), i ≠ j → xs[i]? = some x → xs[j]? = some y → 0 < x.f4.length → 0 < y.f4.length → G i ≠ G j
theorem qE {w w1 : World} {k : Nat} (h : w1.heap[k]? = w.heap[k]?) (i : Nat) : w1.cell? ⟨k, i, none⟩ = w.cell? ⟨k, i, none⟩ := World.cell?_of_block (w := w) (a := ⟨k, i, none⟩) h
section
variable {N : Nat} {w w1 : World} {h : Nat} {G : Nat → Nat} {xs : List S73}
theorem ExAt.keep (s : ExAt N w h G xs) (hk : ∀ (k : Nat) (cur : Array Value) (t : Nat), (t = 73 ∨ t = 70) → w.heap[k]? = some (.cells cur t (0, 0)) → w1.heap[k]? = w.heap[k]?) : ExAt N w1 h G xs := by
 obtain ⟨cur, hc⟩ := s.hb
 have e := hk h cur _ (.inl rfl) hc
 refine ⟨s.hN, ⟨cur, e.trans hc⟩, fun i x hx => ?_, fun i x hx hp => ?_, s.ds⟩
 ·obtain ⟨a, b, c, d, A, cc, f, g⟩ := s.el i x hx
  exact ⟨(qE e _).trans a, (qE e _).trans b, (qE e _).trans c, (qE e _).trans d, A, cc, (qE e _).trans f, g⟩
 ·obtain ⟨a, ⟨cur, hc⟩, c⟩ := s.mp i x hx hp
  have e := hk _ cur _ (.inr rfl) hc
  exact ⟨a, ⟨cur, e.trans hc⟩, fun m v hv => ⟨(qE e _).trans (c m v hv).1, (qE e _).trans (c m v hv).2⟩⟩
theorem ExAt.below (s : ExAt N w h G xs) (hb : Below w.heap.size w w1) : ExAt N w1 h G xs := s.keep fun k cur t _ hc => hb.block k (qG hc)
theorem ExAt.grown (s : ExAt N w h G xs) {row : Option Nat} (hg : w.grownBy w1 row) {t : Nat} (h1 : t ≠ 73) (h2 : t ≠ 70) (hr : ∀ k, row = some k → ∃ cur, w.heap[k]? = some (.cells cur t (0, 0))) : ExAt N w1 h G xs := s.keep fun k cur t' ht hc => by
 refine hg.block k (qG hc) fun e => ?_
 obtain ⟨cur', hc'⟩ := hr k e.symm
 rcases ht with rfl | rfl
 ·exact blk_ne hc' hc h1 rfl
 ·exact blk_ne hc' hc h2 rfl
theorem ExAt.set (s : ExAt N w h G xs) {g t : Nat} {cells : Array Value} (hb : w.heap[g]? = some (.cells cells t (0, 0))) (h1 : t ≠ 73) (h2 : t ≠ 70) (j : Nat) (u : Value) : ExAt N (w.setCell ⟨g, j, none⟩ u) h G xs := s.keep fun k cur t' ht hc => by
 refine Below.heap_setCell w ⟨g, j, none⟩ u k fun e => ?_
 have e' : k = g := e
 subst e'
 rcases ht with rfl | rfl
 ·exact blk_ne hb hc h1 rfl
 ·exact blk_ne hb hc h2 rfl
theorem set_cells {w : World} {g t : Nat} {cur : Array Value} (hc : w.heap[g]? = some (.cells cur t (0, 0))) {j : Nat} {v0 : Value} (h0 : w.cell? ⟨g, j, none⟩ = some v0) (u : Value) : (w.setCell ⟨g, j, none⟩ u).cell? ⟨g, j, none⟩ = some u ∧ ∀ i, i ≠ j → (w.setCell ⟨g, j, none⟩ u).cell? ⟨g, i, none⟩ = w.cell? ⟨g, i, none⟩ := by
 have hs := qC hc j u
 rw [qb hc] at h0
 have hlt := (Array.getElem?_eq_some_iff.1 h0).1
 refine ⟨by rw [qb hs, Array.getElem?_setIfInBounds_self_of_lt hlt], fun i hi => ?_⟩
 rw [qb hs, qb hc, Array.getElem?_setIfInBounds_ne (by omega)]
theorem ExAt.setVal (s : ExAt N w h G xs) {i m : Nat} {x : S73} {q : S70} (hx : xs[i]? = some x) (hm : x.f4[m]? = some q) (v : Int) : ExAt N (w.setCell ⟨G i, m * 2 + 1, none⟩ (.int .i64 v)) h G (xs.set i ⟨x.f0, x.f1, x.f2, x.f3, x.f4.set m ⟨q.f0, v⟩⟩) := by
 have hml : m < x.f4.length := (List.getElem?_eq_some_iff.1 hm).1
 have hp0 : 0 < x.f4.length := by omega
 obtain ⟨gN, ⟨cur, hc⟩, hv⟩ := s.mp i x hx hp0
 obtain ⟨curh, hch⟩ := s.hb
 have hset := qC hc (m * 2 + 1) (.int .i64 v)
 obtain ⟨hs, ho⟩ := set_cells hc (hv m q hm).2 (.int .i64 v)
 have hi : i < xs.length := (List.getElem?_eq_some_iff.1 hx).1
 have hne : h ≠ G i := blk_ne hch hc (by decide)
 have eh := Below.heap_setCell w ⟨G i, m * 2 + 1, none⟩ (.int .i64 v) h hne
 have hq : ∀ (j : Nat) (y : S73), (xs.set i ⟨x.f0, x.f1, x.f2, x.f3, x.f4.set m ⟨q.f0, v⟩⟩)[j]? = some y → ∃ z, xs[j]? = some z ∧ z.f4.length = y.f4.length ∧ z.f0 = y.f0 ∧ z.f1 = y.f1 ∧ z.f2 = y.f2 ∧ z.f3 = y.f3 ∧ ((j ≠ i ∧ z = y) ∨ (j = i ∧ z = x ∧ y.f4 = x.f4.set m ⟨q.f0, v⟩)) := by
  intro j y hy
  by_cases e : j = i
  ·subst e
   rw [List.getElem?_set_self hi] at hy
   cases hy
   exact ⟨x, hx, by simp, rfl, rfl, rfl, rfl, .inr ⟨rfl, rfl, rfl⟩⟩
  ·rw [List.getElem?_set_ne (fun q => e q.symm)] at hy
   exact ⟨y, hy, rfl, rfl, rfl, rfl, rfl, .inl ⟨e, rfl⟩⟩
 refine ⟨s.hN, ⟨curh, eh.trans hch⟩, fun j y hy => ?_, fun j y hy hp => ?_, fun j k y z hjk hy hz hp1 hp2 => ?_⟩
 ·obtain ⟨z, hz, e4, e0, e1, e2, e3, hor⟩ := hq j y hy
  obtain ⟨a, b, c, d, A, cc, f, g1, g2⟩ := s.el j z hz
  rw [e4] at f g1 g2
  rw [e0] at a
  rw [e1] at b
  rw [e2] at c
  rw [e3] at d
  exact ⟨(qE eh _).trans a, (qE eh _).trans b, (qE eh _).trans c, (qE eh _).trans d, A, cc, (qE eh _).trans f, g1, g2⟩
 ·obtain ⟨z, hz, e4, -, -, -, -, hor⟩ := hq j y hy
  rcases hor with ⟨hne', rfl⟩ | ⟨rfl, rfl, e5⟩
  ·obtain ⟨a, ⟨cur', hc'⟩, c⟩ := s.mp j z hz hp
   have hgg : G j ≠ G i := s.ds j i z x hne' hz hx hp hp0
   have e := Below.heap_setCell w ⟨G i, m * 2 + 1, none⟩ (.int .i64 v) (G j) hgg
   exact ⟨a, ⟨cur', e.trans hc'⟩, fun m u hu => ⟨(qE e _).trans (c m u hu).1, (qE e _).trans (c m u hu).2⟩⟩
  ·refine ⟨gN, ⟨_, hset⟩, fun m' u hu => ?_⟩
   rw [e5] at hu
   by_cases e : m' = m
   ·subst e
    rw [List.getElem?_set_self hml] at hu
    cases hu
    exact ⟨(ho _ (by omega)).trans (hv m' q hm).1, hs⟩
   ·rw [List.getElem?_set_ne (fun q => e q.symm)] at hu
    exact ⟨(ho _ (by omega)).trans (hv m' u hu).1, (ho _ (by omega)).trans (hv m' u hu).2⟩
 ·obtain ⟨y', hy', e4, -⟩ := hq j y hy
  obtain ⟨z', hz', e4', -⟩ := hq k z hz
  rw [← e4] at hp1
  rw [← e4'] at hp2
  exact s.ds j k y' z' hjk hy' hz' hp1 hp2
theorem ExAt.C (s : ExAt N w h G xs) (hl : xs.length ≤ 1000000) (hm : ∀ x ∈ xs, x.f4.length ≤ 1000000) : k73.C w (some ⟨h, 0, none⟩) xs.length xs := by
 refine ⟨rfl, by omega, fun _ => ⟨_, rfl, fun j p hj => ?_⟩⟩
 obtain ⟨a, b, c, d, A, cc, f, g1, g2⟩ := s.el j p hj
 have hpl := hm p (List.mem_of_getElem? hj)
 have hC4 : k70.C w A p.f4.length p.f4 := by
  refine ⟨rfl, by omega, fun hp => ⟨_, g2 hp, fun m v hv => ⟨_, rfl, k70_mk w v, fun i u hu => ?_⟩⟩⟩
  obtain ⟨-, -, hcv⟩ := s.mp j p hj hp
  rw [qI, show k70.sz = 2 from rfl]
  match i, hu with
  | 0, hu => cases hu; exact (hcv m v hv).1
  | 1, hu => cases hu; exact (hcv m v hv).2
  | i + 2, hu => simp at hu
 refine ⟨_, rfl, k73_mk w p g1 hC4, fun i v hv => ?_⟩
 rw [qI, show k73.sz = 5 from rfl]
 match i, hv with
 | 0, hv => cases hv; exact a
 | 1, hv => cases hv; exact b
 | 2, hv => cases hv; exact c
 | 3, hv => cases hv; exact d
 | 4, hv => cases hv; exact f
 | i + 5, hv => simp at hv
end
end Go.Proofs.Ythjgakoofmmloaa

namespace Go.Proofs.Ythjgakoofmmloaa
open Go.RowKit Go.Proofs.YthjgakoofmmloaaW.PrintWords Go.Proofs.YthjgakoofmmloaaW.PrintMore Go.Proofs.Ythjgakoofmmloaa.PNumberDoes
set_option linter.unusedVariables false
set_option linter.unusedSimpArgs false

def ExRow (N : Nat) (w : World) (G : Nat → Nat) (v : Value) (xs : List S73) : Prop := ∃ A c, v = .slice A xs.length c ∧ xs.length ≤ c ∧ (0 < xs.length → ∃ h, A = some ⟨h, 0, none⟩ ∧ ExAt N w h G xs)
def ClS (N : Nat) (w : World) (gc : Nat) (B : BlkV) : Prop := ∃ v0 v1 v2 G, N ≤ gc ∧ w.heap[gc]? = some (.cells #[v0, v1, v2, .int .i64 B.last] 76 (0, 0)) ∧ PartP N B v0 w ∧ PartO N B v1 w ∧ ExRow N w G v2 B.exits
structure CSd (wr : World) (B : BlkV) (h k : Nat) (G : Nat → Nat) : Prop where
 own : ∀ (i : Nat) (x : S73), i < k → B.exits[i]? = some x → 0 < x.f4.length → ∃ c, wr.cell? ⟨h, i * 5 + 4, none⟩ = some (.slice (some ⟨G i, 0, none⟩) x.f4.length c)
 ds : ∀ (i j : Nat) (x y : S73), i < j → j < k → B.exits[i]? = some x → B.exits[j]? = some y → 0 < x.f4.length → 0 < y.f4.length → G i ≠ G j
theorem CSd.zero {wr : World} {B : BlkV} {h : Nat} {G : Nat → Nat} : CSd wr B h 0 G := ⟨fun _ _ h => absurd h (Nat.not_lt_zero _), fun _ _ _ _ _ h => absurd h (Nat.not_lt_zero _)⟩
section
variable {w wr w1 : World} {B : BlkV} {gc h : Nat} {v0 v1 : Value} {cap k : Nat} {G : Nat → Nat}
theorem CSd.below (d : CSd wr B h k G) (hb : Below wr.heap.size wr w1) : CSd w1 B h k G := ⟨fun i x hi hx hp => by
 obtain ⟨c, hc⟩ := d.own i x hi hx hp
 exact ⟨c, cellk hb hc⟩, d.ds⟩
theorem CSd.lt (d : CSd wr B h k G) (s : CSt w wr B gc h v0 v1 cap k) : ∀ (i : Nat) (x : S73), i < k → B.exits[i]? = some x → 0 < x.f4.length → G i < wr.heap.size := fun i x hi hx hp => by
 obtain ⟨c, hc⟩ := d.own i x hi hx hp
 obtain ⟨-, -, -, -, u, hu, hr⟩ := s.el i x hx
 rw [hc] at hu
 cases hu
 rcases hr with ⟨_, hr⟩ | ⟨hk, _⟩
 ·exact Kd.R_lt hr (G i) rfl
 ·omega
end
theorem PartX.cap {w wr : World} {B : BlkV} {v : Value} {gc h : Nat} {v0 v1 : Value} {cap k : Nat} (hx : PartX w.heap.size w B v wr) (hv : v = .pointer (some ⟨gc, 0, none⟩)) (s : CSt w wr B gc h v0 v1 cap k) : B.exits.length ≤ cap := by
 obtain ⟨gc', v0', v1', v2', hv', hg, hh, r0, r1, us, hl, r2, hall⟩ := hx
 rw [hv] at hv'
 cases hv'
 obtain ⟨A2, c2, rfl, hle, -⟩ := Kd.R_reads r2
 have e1 := s.blk
 rw [hh] at e1
 have e2 := (Obj.cells.inj (Option.some.inj e1)).1
 have e3 := congrArg (fun a : Array Value => a[2]?) e2
 simp at e3
 have hz : (List.zipWith exCs us B.exits).length = B.exits.length := by simp [hl]
 omega
theorem PartX.none_ {w wr : World} {B : BlkV} {v : Value} (h : PartX w.heap.size w B v wr) (hp : B.exits = []) : ∃ gc cc, v = .pointer (some ⟨gc, 0, none⟩) ∧ ClS w.heap.size wr gc B ∧ ∃ A2, wr.cell? ⟨gc, 2, none⟩ = some (.slice A2 0 cc) := by
 obtain ⟨gc, v0, v1, v2, rfl, hg, hh, r0, r1, us, hl, r2, hall⟩ := h
 have hz : List.zipWith exCs us B.exits = [] := by rw [hp]; simp
 rw [hz] at r2
 obtain ⟨A2, c2, rfl, -, -⟩ := Kd.R_reads r2
 exact ⟨gc, c2, rfl, ⟨v0, v1, _, fun _ => 0, hg, hh, r0, r1, A2, c2, by rw [hp]; rfl, by rw [hp]; exact Nat.zero_le _, fun h => by rw [hp] at h; exact absurd h (Nat.lt_irrefl 0)⟩, A2, by rw [qb hh]; rfl⟩
end Go.Proofs.Ythjgakoofmmloaa
