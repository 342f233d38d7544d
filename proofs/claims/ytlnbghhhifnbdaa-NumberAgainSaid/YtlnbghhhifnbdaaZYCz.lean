/- ir.Clone again, with what it makes in sight. Conditions: the block reads as the given one, its lists have at most a million entries. -/
import Derived.Test.YtlnbghhhifnbdaaZYSz
import Derived.Test.YtlnbghhhifnbdaaZWApart
import Derived.Lib.BufferMore
import Derived.Deep.Slices
import Derived.Test.YtlnbghhhifnbdaaZYTz
import Derived.Test.YtlnbghhhifnbdaaZWShare
import Derived.Deep.RegionLaw
namespace Go.Proofs.Ytlnbghhhifnbdaa
open Go.RowKit Go.Deep Go.Proofs.YtlnbghhhifnbdaaW.PrintWords Go.Proofs.YtlnbghhhifnbdaaW.PrintMore Go.Proofs.Ytlnbghhhifnbdaa.PNumberDoes
set_option linter.unusedVariables false
set_option linter.unusedSimpArgs false

theorem infoU32 : (Try.prog.info? 27).map (fun i => (i.zero, i.size, i.bytes)) = some (some (.int .u32 0), 1, 4) := by kernel_rfl
theorem R_empty {α : Type} (d : Kd α) (e base : Nat) (w : World) (hb : base ≤ w.heap.size) : d.R e (w.alloc (.cells #[] e)) base (fun _ => True) (.slice (some ⟨w.heap.size, 0, none⟩) 0 0) [] :=
 ⟨fun _ _ => trivial, [], ⟨by simp, .inr ⟨w.heap.size, 0, #[], rfl, hb, blk_new _ _, Nat.le_refl _, Nat.zero_le _, by simp, by simp⟩⟩, Reps.none _ _⟩
def exCs (u : Value) (x : S72) : List Value := [.int .i64 x.f0, .int .u32 x.f1, .int .i64 x.f2, .int .i64 x.f3, u]
instance : Inhabited Value := ⟨undef⟩
theorem exits_raw {w : World} {A : Option Addr} {n : Nat} {xs : List S72} (h : k72.C w A n xs) : ∃ us : List Value, us.length = xs.length ∧ (Kd.raw 5).C w A n (List.zipWith exCs us xs) ∧ ∀ (i : Nat) (u : Value) (x : S72), us[i]? = some u → xs[i]? = some x → ∃ A4 c4, u = .slice A4 x.f4.length c4 ∧ k69.C w A4 x.f4.length x.f4 := by
 obtain ⟨hl, hm, hc⟩ := h
 rcases Nat.eq_zero_or_pos n with h0 | h0
 ·subst h0
  obtain rfl : xs = [] := List.eq_nil_of_length_eq_zero hl
  exact ⟨[], rfl, ⟨rfl, hm, fun h => absurd h (by omega)⟩, fun i u x hu => by simp at hu⟩
 obtain ⟨ad, rfl, hc2⟩ := hc h0
 have hex : ∀ i, i < n → ∃ u : Value, ∃ x, xs[i]? = some x ∧ (∃ A4 c4, u = .slice A4 x.f4.length c4 ∧ k69.C w A4 x.f4.length x.f4) ∧ ∀ j v, (exCs u x)[j]? = some v → w.cell? (ad.add (i * 5 + j)) = some v := by
  intro i hi
  obtain ⟨c, hlc, hK, hcell⟩ := hc2 i _ (List.getElem?_eq_getElem (by omega))
  obtain ⟨A4, c4, rfl, l4, g4⟩ := k72_open hK
  exact ⟨_, _, List.getElem?_eq_getElem (by omega), ⟨A4, c4, rfl, g4⟩, hcell⟩
 obtain ⟨F, hF⟩ := choose_lt (n := n) (p := fun i (u : Value) => ∃ x, xs[i]? = some x ∧ (∃ A4 c4, u = .slice A4 x.f4.length c4 ∧ k69.C w A4 x.f4.length x.f4) ∧ ∀ j v, (exCs u x)[j]? = some v → w.cell? (ad.add (i * 5 + j)) = some v) hex
 refine ⟨(List.range n).map F, by simp [hl], ⟨by simp [hl], hm, fun _ => ⟨ad, rfl, fun j p hj => ?_⟩⟩, fun i u x hu hx => ?_⟩
 ·have hjn : j < n := by have := (List.getElem?_eq_some_iff.1 hj).1; simp at this; omega
  obtain ⟨x, hx, ⟨A4, c4, hu, g4⟩, hcell⟩ := hF j hjn
  have hp : p = exCs (F j) x := by
   rw [List.getElem?_zipWith, List.getElem?_map, List.getElem?_range hjn, hx] at hj
   simpa using hj.symm
  subst hp
  refine ⟨exCs (F j) x, rfl, ⟨rfl, rfl, ?_⟩, hcell⟩
  intro v hv
  simp only [exCs, List.mem_cons, List.not_mem_nil, or_false] at hv
  rw [hu] at hv
  rcases hv with rfl | rfl | rfl | rfl | rfl <;> rfl
 ·have hi : i < n := by have := (List.getElem?_eq_some_iff.1 hu).1; simpa using this
  obtain ⟨x', hx', hA, _⟩ := hF i hi
  rw [hx] at hx'
  cases hx'
  rw [List.getElem?_map, List.getElem?_range hi] at hu
  obtain rfl : F i = u := by simpa using hu
  exact hA
set_option maxHeartbeats 4000000 in
set_option maxRecDepth 100000 in
theorem clone_u (A : Option Addr) (c n : Nat) (xs : List Int) (hx : n ≤ 1000000) (w : World) (hC : (Kd.int .u32).C w A n xs) :
  Calls Try.prog 68 #[.slice A n c] w fun e w' => (∃ v, e = .returned v ∧ Kd.R (Kd.int .u32) 27 w' w.heap.size (fun _ => True) v xs) ∧ Below w.heap.size w w' := by
 have hn : xs.length = n := hC.1
 rcases A with _ | ad
 ·have h0 : n = 0 := by
   rcases Nat.eq_zero_or_pos n with h0 | h0
   ·exact h0
   ·obtain ⟨ad, h, _⟩ := hC.2.2 h0
    cases h
  subst h0
  obtain rfl : xs = [] := List.eq_nil_of_length_eq_zero hn
  clear hC
  have hE := fun v => Go.Lib.run_eql_slice_nil_nil (P := Try.prog) v 0 c Try.underlying22
  go_enter Try.func68, Try.ntmps68
  go_wp2
  go_ret
  exact ⟨⟨_, rfl, Kd.R_nil _ _ _ _ _⟩, Below.refl _ _⟩
 ·have HC := Lib.hid hC
  clear hC
  have hE := fun v => Go.Lib.run_eql_slice_some_nil (P := Try.prog) v ad n c Try.underlying22
  go_enter Try.func68, Try.ntmps68
  go_wp2_with (at_builtin; refine Kd.R_append_rows (Kd.int .u32) (w0 := w) w.heap.size rfl _ _ 22 27 (.int .u32 0) 4 rfl Try.underlying22 infoU32 rfl (by decide) (by decide) (.slice (some ⟨w.heap.size, 0, none⟩) 0 0) [] xs (some ad) n c (fun _ => True) (fun _ => False) rfl rfl (R_empty (Kd.int .u32) 27 w.heap.size w (Nat.le_refl _)) (Kd.qp HC.out (bal (Below.refl _ _) _)) (fun _ _ h => h) (fun _ hk => hk.elim) (fun _ _ => trivial) (bal (Below.refl _ _) _) (bal (Below.refl w.heap.size w) _).size (by simp; omega) ?_)
  intro v1 w1 hr hb hg hat
  have HR := Lib.hid hr
  have HB := Lib.hid hb
  clear hr hb hg hat
  go_wp2
  go_ret
  exact ⟨⟨_, rfl, HR.out⟩, HB.out⟩
set_option maxHeartbeats 4000000 in
set_option maxRecDepth 100000 in
theorem clone_o (A : Option Addr) (c n : Nat) (xs : List S66) (hx : n ≤ 1000000) (w : World) (hC : k66.C w A n xs) :
  Calls Try.prog 89 #[.slice A n c] w fun e w' => (∃ v, e = .returned v ∧ Kd.R k66 66 w' w.heap.size (fun _ => True) v xs) ∧ Below w.heap.size w w' := by
 have hn : xs.length = n := hC.1
 rcases A with _ | ad
 ·have h0 : n = 0 := by
   rcases Nat.eq_zero_or_pos n with h0 | h0
   ·exact h0
   ·obtain ⟨ad, h, _⟩ := hC.2.2 h0
    cases h
  subst h0
  obtain rfl : xs = [] := List.eq_nil_of_length_eq_zero hn
  clear hC
  have hE := fun v => Go.Lib.run_eql_slice_nil_nil (P := Try.prog) v 0 c Try.underlying67
  go_enter Try.func89, Try.ntmps89
  go_wp2
  go_ret
  exact ⟨⟨_, rfl, Kd.R_nil _ _ _ _ _⟩, Below.refl _ _⟩
 ·have HC := Lib.hid hC
  clear hC
  have hE := fun v => Go.Lib.run_eql_slice_some_nil (P := Try.prog) v ad n c Try.underlying67
  go_enter Try.func89, Try.ntmps89
  go_wp2_with (at_builtin; refine Kd.R_append_rows k66 (w0 := w) w.heap.size rfl _ _ 67 66 (.agg #[.int .i64 0, .int .i64 0, .int .i64 0, .int .u32 0, .int .i64 0, .int .i64 0]) 48 rfl Try.underlying67 infoOp rfl (by decide) (by decide) (.slice (some ⟨w.heap.size, 0, none⟩) 0 0) [] xs (some ad) n c (fun _ => True) (fun _ => False) rfl rfl (R_empty k66 66 w.heap.size w (Nat.le_refl _)) (Kd.qp HC.out (bal (Below.refl _ _) _)) (fun _ _ h => by rw [k66_open h]; exact k66_mkM _ _ _ _) (fun _ hk => hk.elim) (fun _ _ => trivial) (bal (Below.refl _ _) _) (bal (Below.refl w.heap.size w) _).size (by simp; omega) ?_)
  intro v1 w1 hr hb hg hat
  have HR := Lib.hid hr
  have HB := Lib.hid hb
  clear hr hb hg hat
  go_wp2
  go_ret
  exact ⟨⟨_, rfl, HR.out⟩, HB.out⟩
set_option maxHeartbeats 4000000 in
set_option maxRecDepth 100000 in
theorem clone_v (A : Option Addr) (c n : Nat) (xs : List S69) (hx : n ≤ 1000000) (w : World) (hC : k69.C w A n xs) :
  Calls Try.prog 91 #[.slice A n c] w fun e w' => (∃ v, e = .returned v ∧ Kd.R k69 69 w' w.heap.size (fun _ => True) v xs) ∧ Below w.heap.size w w' := by
 have hn : xs.length = n := hC.1
 rcases A with _ | ad
 ·have h0 : n = 0 := by
   rcases Nat.eq_zero_or_pos n with h0 | h0
   ·exact h0
   ·obtain ⟨ad, h, _⟩ := hC.2.2 h0
    cases h
  subst h0
  obtain rfl : xs = [] := List.eq_nil_of_length_eq_zero hn
  clear hC
  have hE := fun v => Go.Lib.run_eql_slice_nil_nil (P := Try.prog) v 0 c Try.underlying70
  go_enter Try.func91, Try.ntmps91
  go_wp2
  go_ret
  exact ⟨⟨_, rfl, Kd.R_nil _ _ _ _ _⟩, Below.refl _ _⟩
 ·have HC := Lib.hid hC
  clear hC
  have hE := fun v => Go.Lib.run_eql_slice_some_nil (P := Try.prog) v ad n c Try.underlying70
  go_enter Try.func91, Try.ntmps91
  go_wp2_with (at_builtin; refine Kd.R_append_rows k69 (w0 := w) w.heap.size rfl _ _ 70 69 (.agg #[.int .i64 0, .int .i64 0]) 16 rfl Try.underlying70 infoVal rfl (by decide) (by decide) (.slice (some ⟨w.heap.size, 0, none⟩) 0 0) [] xs (some ad) n c (fun _ => True) (fun _ => False) rfl rfl (R_empty k69 69 w.heap.size w (Nat.le_refl _)) (Kd.qp HC.out (bal (Below.refl _ _) _)) (fun _ _ h => by rw [k69_open h]; exact k69_mkM _ _ _ _) (fun _ hk => hk.elim) (fun _ _ => trivial) (bal (Below.refl _ _) _) (bal (Below.refl w.heap.size w) _).size (by simp; omega) ?_)
  intro v1 w1 hr hb hg hat
  have HR := Lib.hid hr
  have HB := Lib.hid hb
  clear hr hb hg hat
  go_wp2
  go_ret
  exact ⟨⟨_, rfl, HR.out⟩, HB.out⟩
set_option maxHeartbeats 4000000 in
set_option maxRecDepth 100000 in
theorem clone_e (A : Option Addr) (c n : Nat) (xs : List (List Value)) (hx : n ≤ 1000000) (w : World) (hC : (Kd.raw 5).C w A n xs) :
  Calls Try.prog 90 #[.slice A n c] w fun e w' => (∃ v, e = .returned v ∧ Kd.R (Kd.raw 5) 72 w' w.heap.size (fun _ => True) v xs) ∧ Below w.heap.size w w' := by
 have hn : xs.length = n := hC.1
 rcases A with _ | ad
 ·have h0 : n = 0 := by
   rcases Nat.eq_zero_or_pos n with h0 | h0
   ·exact h0
   ·obtain ⟨ad, h, _⟩ := hC.2.2 h0
    cases h
  subst h0
  obtain rfl : xs = [] := List.eq_nil_of_length_eq_zero hn
  clear hC
  have hE := fun v => Go.Lib.run_eql_slice_nil_nil (P := Try.prog) v 0 c Try.underlying73
  go_enter Try.func90, Try.ntmps90
  go_wp2
  go_ret
  exact ⟨⟨_, rfl, Kd.R_nil _ _ _ _ _⟩, Below.refl _ _⟩
 ·have HC := Lib.hid hC
  clear hC
  have hE := fun v => Go.Lib.run_eql_slice_some_nil (P := Try.prog) v ad n c Try.underlying73
  go_enter Try.func90, Try.ntmps90
  go_wp2_with (at_builtin; refine Kd.R_append_rows (Kd.raw 5) (w0 := w) w.heap.size rfl _ _ 73 72 (.agg #[.int .i64 0, .int .u32 0, .int .i64 0, .int .i64 0, .slice none 0 0]) 56 rfl Try.underlying73 infoExit rfl (by decide) (by decide) (.slice (some ⟨w.heap.size, 0, none⟩) 0 0) [] xs (some ad) n c (fun _ => True) (fun _ => False) rfl rfl (R_empty (Kd.raw 5) 72 w.heap.size w (Nat.le_refl _)) (Kd.qp HC.out (bal (Below.refl _ _) _)) (fun _ _ h => h) (fun _ hk => hk.elim) (fun _ _ => trivial) (bal (Below.refl _ _) _) (bal (Below.refl w.heap.size w) _).size (by simp; omega) ?_)
  intro v1 w1 hr hb hg hat
  have HR := Lib.hid hr
  have HB := Lib.hid hb
  clear hr hb hg hat
  go_wp2
  go_ret
  exact ⟨⟨_, rfl, HR.out⟩, HB.out⟩
end Go.Proofs.Ytlnbghhhifnbdaa

namespace Go.Proofs.Ytlnbghhhifnbdaa
open Go.RowKit Go.Proofs.YtlnbghhhifnbdaaW.PrintWords Go.Proofs.YtlnbghhhifnbdaaW.PrintMore Go.Proofs.Ytlnbghhhifnbdaa.PNumberDoes
set_option linter.unusedVariables false
set_option linter.unusedSimpArgs false

def PartP (N : Nat) (B : BlkV) (v : Value) (w : World) : Prop := Kd.R (Kd.int .u32) 27 w N (fun _ => True) v B.pcs
def PartO (N : Nat) (B : BlkV) (v : Value) (w : World) : Prop := Kd.R k66 66 w N (fun _ => True) v B.ops
def PartE (N : Nat) (w0 : World) (B : BlkV) (v : Value) (w : World) : Prop := ∃ us : List Value, us.length = B.exits.length ∧ Kd.R (Kd.raw 5) 72 w N (fun _ => True) v (List.zipWith exCs us B.exits) ∧ ∀ (i : Nat) (u : Value) (x : S72), us[i]? = some u → B.exits[i]? = some x → ∃ A4 c4, u = .slice A4 x.f4.length c4 ∧ k69.C w0 A4 x.f4.length x.f4
def PartB (N : Nat) (w0 : World) (B : BlkV) (v : Value) (w : World) : Prop := ∃ v0 v1 v2, v = .agg #[v0, v1, v2, .int .i64 B.last] ∧ PartP N B v0 w ∧ PartO N B v1 w ∧ PartE N w0 B v2 w
def PartX (N : Nat) (w0 : World) (B : BlkV) (v : Value) (w : World) : Prop := ∃ g v0 v1 v2, v = .pointer (some ⟨g, 0, none⟩) ∧ N ≤ g ∧ w.heap[g]? = some (.cells #[v0, v1, v2, .int .i64 B.last] 75 (0, 0)) ∧ PartP N B v0 w ∧ PartO N B v1 w ∧ PartE N w0 B v2 w
section
variable {N : Nat} {w0 : World} {B : BlkV}
theorem PartP.keep (v : Value) (w1 w2 : World) (h : PartP N B v w1) (hb : Below w1.heap.size w1 w2) : PartP N B v w2 := Kd.qN h hb
theorem PartO.keep (v : Value) (w1 w2 : World) (h : PartO N B v w1) (hb : Below w1.heap.size w1 w2) : PartO N B v w2 := Kd.qN h hb
theorem PartE.keep (v : Value) (w1 w2 : World) (h : PartE N w0 B v w1) (hb : Below w1.heap.size w1 w2) : PartE N w0 B v w2 := by
 obtain ⟨us, a, b, c⟩ := h
 exact ⟨us, a, Kd.qN b hb, c⟩
theorem PartB.keep (v : Value) (w1 w2 : World) (h : PartB N w0 B v w1) (hb : Below w1.heap.size w1 w2) : PartB N w0 B v w2 := by
 obtain ⟨v0, v1, v2, a, b, c, d⟩ := h
 exact ⟨v0, v1, v2, a, PartP.keep _ _ _ b hb, PartO.keep _ _ _ c hb, PartE.keep _ _ _ d hb⟩
theorem PartX.keep (v : Value) (w1 w2 : World) (h : PartX N w0 B v w1) (hb : Below w1.heap.size w1 w2) : PartX N w0 B v w2 := by
 obtain ⟨g, v0, v1, v2, a, hg, hh, b, c, d⟩ := h
 exact ⟨g, v0, v1, v2, a, hg, qo hh hb, PartP.keep _ _ _ b hb, PartO.keep _ _ _ c hb, PartE.keep _ _ _ d hb⟩
end
theorem part_p (B : BlkV) (A : Option Addr) (c : Nat) (N : Nat) (hl : B.pcs.length ≤ 1000000) (v : World) (hN : N ≤ v.heap.size) (hC : (Kd.int .u32).C v A B.pcs.length B.pcs) :
  Calls Try.prog 68 #[.slice A B.pcs.length c] v fun e w' => (∃ u, e = .returned u ∧ PartP N B u w') ∧ Below v.heap.size v w' :=
 (clone_u A c _ B.pcs hl v hC).mono fun e w' h => by
  obtain ⟨⟨u, he, hr⟩, hb⟩ := h
  exact ⟨⟨u, he, Kd.R_lower hr hN⟩, hb⟩
theorem part_o (B : BlkV) (A : Option Addr) (c : Nat) (N : Nat) (hl : B.ops.length ≤ 1000000) (v : World) (hN : N ≤ v.heap.size) (hC : k66.C v A B.ops.length B.ops) :
  Calls Try.prog 89 #[.slice A B.ops.length c] v fun e w' => (∃ u, e = .returned u ∧ PartO N B u w') ∧ Below v.heap.size v w' :=
 (clone_o A c _ B.ops hl v hC).mono fun e w' h => by
  obtain ⟨⟨u, he, hr⟩, hb⟩ := h
  exact ⟨⟨u, he, Kd.R_lower hr hN⟩, hb⟩
theorem part_e (w0 : World) (B : BlkV) (A : Option Addr) (c : Nat) (hl : B.exits.length ≤ 1000000) (hC : k72.C w0 A B.exits.length B.exits) (v : World) (hb0 : Below w0.heap.size w0 v) :
  Calls Try.prog 90 #[.slice A B.exits.length c] v fun e w' => (∃ u, e = .returned u ∧ PartE w0.heap.size w0 B u w') ∧ Below v.heap.size v w' := by
 obtain ⟨us, hus, hC2, hall⟩ := exits_raw hC
 refine (clone_e A c _ _ hl v (Kd.qp hC2 hb0)).mono fun e w' h => ?_
 obtain ⟨⟨u, he, hr⟩, hb⟩ := h
 exact ⟨⟨u, he, us, hus, Kd.R_lower hr hb0.size, hall⟩, hb⟩
structure CSt (w wr : World) (B : BlkV) (gc h : Nat) (v0 v1 : Value) (cap k : Nat) : Prop where
 bel : Below w.heap.size w wr
 gcN : w.heap.size ≤ gc
 hN : w.heap.size ≤ h
 blk : wr.heap[gc]? = some (.cells #[v0, v1, .slice (some ⟨h, 0, none⟩) B.exits.length cap, .int .i64 B.last] 75 (0, 0))
 r0 : PartP w.heap.size B v0 wr
 r1 : PartO w.heap.size B v1 wr
 hb : ∃ cur, wr.heap[h]? = some (.cells cur 72 (0, 0))
 el : ∀ (i : Nat) (x : S72), B.exits[i]? = some x → wr.cell? ⟨h, i * 5, none⟩ = some (.int .i64 x.f0) ∧ wr.cell? ⟨h, i * 5 + 1, none⟩ = some (.int .u32 x.f1) ∧ wr.cell? ⟨h, i * 5 + 2, none⟩ = some (.int .i64 x.f2) ∧ wr.cell? ⟨h, i * 5 + 3, none⟩ = some (.int .i64 x.f3) ∧
  ∃ u, wr.cell? ⟨h, i * 5 + 4, none⟩ = some u ∧ ((i < k ∧ Kd.R k69 69 wr w.heap.size (fun _ => True) u x.f4) ∨ (k ≤ i ∧ ∃ A4 c4, u = .slice A4 x.f4.length c4 ∧ k69.C w A4 x.f4.length x.f4))
theorem CSt.below {w wr w1 : World} {B : BlkV} {gc h : Nat} {v0 v1 : Value} {cap k : Nat} (s : CSt w wr B gc h v0 v1 cap k) (hb : Below wr.heap.size wr w1) : CSt w w1 B gc h v0 v1 cap k := by
 obtain ⟨cur, hc⟩ := s.hb
 refine ⟨bthen s.bel hb, s.gcN, s.hN, qo s.blk hb, PartP.keep _ _ _ s.r0 hb, PartO.keep _ _ _ s.r1 hb, ⟨cur, qo hc hb⟩, fun i x hx => ?_⟩
 obtain ⟨a, b, c, d, u, hu, hr⟩ := s.el i x hx
 refine ⟨cellk hb a, cellk hb b, cellk hb c, cellk hb d, u, cellk hb hu, ?_⟩
 rcases hr with ⟨hk, hr⟩ | hr
 ·exact .inl ⟨hk, Kd.qN hr hb⟩
 ·exact .inr hr
theorem CSt.store {w wr : World} {B : BlkV} {gc h : Nat} {v0 v1 : Value} {cap k : Nat} (s : CSt w wr B gc h v0 v1 cap k) (hk : k < B.exits.length) (u : Value) (hu : ∀ x, B.exits[k]? = some x → Kd.R k69 69 wr w.heap.size (fun _ => True) u x.f4) : CSt w (wr.setCell ⟨h, k * 5 + 4, none⟩ u) B gc h v0 v1 cap (k + 1) := by
 obtain ⟨cur, hc⟩ := s.hb
 have hne : gc ≠ h := blk_ne s.blk hc (by decide)
 have hset := qF hc (k * 5 + 4) u
 have hcell : ∀ j v, wr.cell? ⟨h, j, none⟩ = some v → j ≠ k * 5 + 4 → (wr.setCell ⟨h, k * 5 + 4, none⟩ u).cell? ⟨h, j, none⟩ = some v := by
  intro j v hv hj
  rw [qb hc] at hv
  rw [qb hset, Array.getElem?_setIfInBounds_ne (by omega)]
  exact hv
 refine ⟨bset s.bel s.hN u, s.gcN, s.hN, qu s.blk (by simpa using hne) u, ?_, ?_, ⟨_, hset⟩, fun i x hx => ?_⟩
 ·exact Kd.R_set s.r0 hc (by decide) _ _
 ·exact Kd.R_set s.r1 hc (by decide) _ _
 ·obtain ⟨a, b, c, d, v, hv, hr⟩ := s.el i x hx
  refine ⟨hcell _ _ a (by omega), hcell _ _ b (by omega), hcell _ _ c (by omega), hcell _ _ d (by omega), ?_⟩
  by_cases hik : i = k
  ·subst hik
   refine ⟨u, ?_, .inl ⟨by omega, Kd.R_set (hu x hx) hc (by decide) _ _⟩⟩
   have hv2 := hv
   rw [qb hc] at hv2
   have hlt : i * 5 + 4 < cur.size := (Array.getElem?_eq_some_iff.1 hv2).1
   rw [qb hset, Array.getElem?_setIfInBounds_self_of_lt hlt]
  ·refine ⟨v, hcell _ _ hv (by omega), ?_⟩
   rcases hr with ⟨hk2, hr⟩ | ⟨hk2, hr⟩
   ·exact .inl ⟨by omega, Kd.R_set hr hc (by decide) _ _⟩
   ·exact .inr ⟨by omega, hr⟩
end Go.Proofs.Ytlnbghhhifnbdaa

namespace Go.Proofs.Ytlnbghhhifnbdaa
open Go.RowKit Go.Proofs.YtlnbghhhifnbdaaW.PrintWords Go.Proofs.YtlnbghhhifnbdaaW.PrintMore Go.Proofs.Ytlnbghhhifnbdaa.PNumberDoes
set_option linter.unusedVariables false
set_option linter.unusedSimpArgs false

theorem zip_at {us : List Value} {xs : List S72} (i : Nat) (x : S72) (hl : us.length = xs.length) (hx : xs[i]? = some x) : ∃ u, us[i]? = some u ∧ (List.zipWith exCs us xs)[i]? = some (exCs u x) := by
 have hi : i < us.length := by rw [hl]; exact (List.getElem?_eq_some_iff.1 hx).1
 exact ⟨us[i], List.getElem?_eq_getElem hi, by rw [List.getElem?_zipWith, List.getElem?_eq_getElem hi, hx]⟩
theorem PartX.start {w wr : World} {B : BlkV} {v : Value} (h : PartX w.heap.size w B v wr) (hb : Below w.heap.size w wr) (hp : 0 < B.exits.length) : ∃ gc g v0 v1 cap, v = .pointer (some ⟨gc, 0, none⟩) ∧ CSt w wr B gc g v0 v1 cap 0 := by
 obtain ⟨gc, v0, v1, v2, rfl, hg, hh, r0, r1, us, hl, r2, hall⟩ := h
 have hzl : (List.zipWith exCs us B.exits).length = B.exits.length := by simp [hl]
 obtain ⟨g, cap, hv, hN, hlt, cells, hc⟩ := Kd.R_form r2 (by rw [hzl]; exact hp)
 obtain ⟨A, c, hv2, -, hC⟩ := Kd.qP r2
 rw [hv] at hv2
 rw [hzl] at hv hC
 cases hv2
 subst hv
 refine ⟨gc, g, v0, v1, cap, rfl, hb, hg, hN, hh, r0, r1, ⟨cells, hc⟩, fun i x hx => ?_⟩
 obtain ⟨u, hu, hz⟩ := zip_at i x hl hx
 obtain ⟨ad, had, hcell⟩ := hC.2.2 hp
 cases had
 obtain ⟨cs, -, hK, hce⟩ := hcell i _ hz
 obtain rfl : cs = exCs u x := hK.1
 obtain ⟨A4, c4, rfl, h4⟩ := hall i u x hu hx
 have hq : ∀ j v, (exCs (.slice A4 x.f4.length c4) x)[j]? = some v → wr.cell? ⟨g, i * 5 + j, none⟩ = some v := fun j v hv => by
  have := hce j v hv
  rw [add_plain] at this
  exact this
 exact ⟨hq 0 _ rfl, hq 1 _ rfl, hq 2 _ rfl, hq 3 _ rfl, _, hq 4 _ rfl, .inr ⟨Nat.zero_le _, A4, c4, rfl, h4⟩⟩
section
variable {w wr : World} {B : BlkV} {gc h : Nat} {v0 v1 : Value} {cap k : Nat}
theorem CSt.c2 (s : CSt w wr B gc h v0 v1 cap k) : wr.cell? ⟨gc, 2, none⟩ = some (.slice (some ⟨h, 0, none⟩) B.exits.length cap) := by rw [qb s.blk]; rfl
theorem CSt.fz (s : CSt w wr B gc h v0 v1 cap k) (i : Nat) : wr.frozen? ⟨h, i, none⟩ = false := by
 obtain ⟨cur, hc⟩ := s.hb
 exact qa hc i
theorem CSt.lt (s : CSt w wr B gc h v0 v1 cap k) : h < wr.heap.size := by
 obtain ⟨cur, hc⟩ := s.hb
 exact qJ hc
theorem CSt.m (s : CSt w wr B gc h v0 v1 cap k) (hk : k < B.exits.length) : ∃ A4 c4, wr.cell? ⟨h, k * 5 + 4, none⟩ = some (.slice A4 B.exits[k].f4.length c4) ∧ k69.C wr A4 B.exits[k].f4.length B.exits[k].f4 := by
 obtain ⟨-, -, -, -, u, hu, hr⟩ := s.el k _ (List.getElem?_eq_getElem hk)
 rcases hr with ⟨hlt, _⟩ | ⟨_, A4, c4, rfl, hC⟩
 ·omega
 ·exact ⟨A4, c4, hu, Kd.qp hC s.bel⟩
end
theorem PartP.form {N : Nat} {B : BlkV} {v : Value} {w : World} (h : PartP N B v w) : ∃ A c, v = .slice A B.pcs.length c := Kd.R_slice h
theorem PartO.form {N : Nat} {B : BlkV} {v : Value} {w : World} (h : PartO N B v w) : ∃ A c, v = .slice A B.ops.length c := Kd.R_slice h
theorem PartE.form {N : Nat} {w0 : World} {B : BlkV} {v : Value} {w : World} (h : PartE N w0 B v w) : ∃ A c, v = .slice A B.exits.length c := by
 obtain ⟨us, a, b, c⟩ := h
 obtain ⟨A, c, h⟩ := Kd.R_slice b
 exact ⟨A, c, by rw [h]; simp [a]⟩
end Go.Proofs.Ytlnbghhhifnbdaa

namespace Go.Proofs.Ytlnbghhhifnbdaa
open Go.RowKit Go.Proofs.YtlnbghhhifnbdaaW.PrintWords Go.Proofs.YtlnbghhhifnbdaaW.PrintMore Go.Proofs.Ytlnbghhhifnbdaa.PNumberDoes
set_option linter.unusedVariables false
set_option linter.unusedSimpArgs false

structure ExAt (N : Nat) (w : World) (h : Nat) (G : Nat → Nat) (xs : List S72) : Prop where
 hN : N ≤ h
 hb : ∃ cur, w.heap[h]? = some (.cells cur 72 (0, 0))
 el : ∀ (i : Nat) (x : S72), xs[i]? = some x → w.cell? ⟨h, i * 5, none⟩ = some (.int .i64 x.f0) ∧ w.cell? ⟨h, i * 5 + 1, none⟩ = some (.int .u32 x.f1) ∧ w.cell? ⟨h, i * 5 + 2, none⟩ = some (.int .i64 x.f2) ∧ w.cell? ⟨h, i * 5 + 3, none⟩ = some (.int .i64 x.f3) ∧
  ∃ A c, w.cell? ⟨h, i * 5 + 4, none⟩ = some (.slice A x.f4.length c) ∧ x.f4.length ≤ c ∧ (0 < x.f4.length → A = some ⟨G i, 0, none⟩)
 mp : ∀ (i : Nat) (x : S72), xs[i]? = some x → 0 < x.f4.length → N ≤ G i ∧ (∃ cur, w.heap[G i]? = some (.cells cur 69 (0, 0))) ∧ ∀ (m : Nat) (v : S69), x.f4[m]? = some v → w.cell? ⟨G i, m * 2, none⟩ = some (.int .i64 v.f0) ∧ w.cell? ⟨G i, m * 2 + 1, none⟩ = some (.int .i64 v.f1)
 ds : ∀ (i j : Nat) (x y : S72), i ≠ j → xs[i]? = some x → xs[j]? = some y → 0 < x.f4.length → 0 < y.f4.length → G i ≠ G j
theorem qH {w w1 : World} {k : Nat} (h : w1.heap[k]? = w.heap[k]?) (i : Nat) : w1.cell? ⟨k, i, none⟩ = w.cell? ⟨k, i, none⟩ := World.cell?_of_block (w := w) (a := ⟨k, i, none⟩) h
section
variable {N : Nat} {w w1 : World} {h : Nat} {G : Nat → Nat} {xs : List S72}
theorem ExAt.keep (s : ExAt N w h G xs) (hk : ∀ (k : Nat) (cur : Array Value) (t : Nat), (t = 72 ∨ t = 69) → w.heap[k]? = some (.cells cur t (0, 0)) → w1.heap[k]? = w.heap[k]?) : ExAt N w1 h G xs := by
 obtain ⟨cur, hc⟩ := s.hb
 have e := hk h cur _ (.inl rfl) hc
 refine ⟨s.hN, ⟨cur, e.trans hc⟩, fun i x hx => ?_, fun i x hx hp => ?_, s.ds⟩
 ·obtain ⟨a, b, c, d, A, cc, f, g⟩ := s.el i x hx
  exact ⟨(qH e _).trans a, (qH e _).trans b, (qH e _).trans c, (qH e _).trans d, A, cc, (qH e _).trans f, g⟩
 ·obtain ⟨a, ⟨cur, hc⟩, c⟩ := s.mp i x hx hp
  have e := hk _ cur _ (.inr rfl) hc
  exact ⟨a, ⟨cur, e.trans hc⟩, fun m v hv => ⟨(qH e _).trans (c m v hv).1, (qH e _).trans (c m v hv).2⟩⟩
theorem ExAt.below (s : ExAt N w h G xs) (hb : Below w.heap.size w w1) : ExAt N w1 h G xs := s.keep fun k cur t _ hc => hb.block k (qJ hc)
theorem ExAt.grown (s : ExAt N w h G xs) {row : Option Nat} (hg : w.grownBy w1 row) {t : Nat} (h1 : t ≠ 72) (h2 : t ≠ 69) (hr : ∀ k, row = some k → ∃ cur, w.heap[k]? = some (.cells cur t (0, 0))) : ExAt N w1 h G xs := s.keep fun k cur t' ht hc => by
 refine hg.block k (qJ hc) fun e => ?_
 obtain ⟨cur', hc'⟩ := hr k e.symm
 rcases ht with rfl | rfl
 ·exact blk_ne hc' hc h1 rfl
 ·exact blk_ne hc' hc h2 rfl
theorem ExAt.set (s : ExAt N w h G xs) {g t : Nat} {cells : Array Value} (hb : w.heap[g]? = some (.cells cells t (0, 0))) (h1 : t ≠ 72) (h2 : t ≠ 69) (j : Nat) (u : Value) : ExAt N (w.setCell ⟨g, j, none⟩ u) h G xs := s.keep fun k cur t' ht hc => by
 refine Below.heap_setCell w ⟨g, j, none⟩ u k fun e => ?_
 have e' : k = g := e
 subst e'
 rcases ht with rfl | rfl
 ·exact blk_ne hb hc h1 rfl
 ·exact blk_ne hb hc h2 rfl
theorem set_cells {w : World} {g t : Nat} {cur : Array Value} (hc : w.heap[g]? = some (.cells cur t (0, 0))) {j : Nat} {v0 : Value} (h0 : w.cell? ⟨g, j, none⟩ = some v0) (u : Value) : (w.setCell ⟨g, j, none⟩ u).cell? ⟨g, j, none⟩ = some u ∧ ∀ i, i ≠ j → (w.setCell ⟨g, j, none⟩ u).cell? ⟨g, i, none⟩ = w.cell? ⟨g, i, none⟩ := by
 have hs := qF hc j u
 rw [qb hc] at h0
 have hlt := (Array.getElem?_eq_some_iff.1 h0).1
 refine ⟨by rw [qb hs, Array.getElem?_setIfInBounds_self_of_lt hlt], fun i hi => ?_⟩
 rw [qb hs, qb hc, Array.getElem?_setIfInBounds_ne (by omega)]
theorem ExAt.setTo (s : ExAt N w h G xs) {i : Nat} {x : S72} (hx : xs[i]? = some x) (v : Int) : ExAt N (w.setCell ⟨h, i * 5 + 2, none⟩ (.int .i64 v)) h G (xs.set i ⟨x.f0, x.f1, v, x.f3, x.f4⟩) := by
 obtain ⟨cur, hc⟩ := s.hb
 have hset := qF hc (i * 5 + 2) (.int .i64 v)
 obtain ⟨hs, ho⟩ := set_cells hc (s.el i x hx).2.2.1 (.int .i64 v)
 have hi : i < xs.length := (List.getElem?_eq_some_iff.1 hx).1
 have hq : ∀ (j : Nat) (y : S72), (xs.set i ⟨x.f0, x.f1, v, x.f3, x.f4⟩)[j]? = some y → ∃ z, xs[j]? = some z ∧ z.f4 = y.f4 ∧ z.f0 = y.f0 ∧ z.f1 = y.f1 ∧ z.f3 = y.f3 ∧ ((j ≠ i ∧ z = y) ∨ (j = i ∧ y.f2 = v)) := by
  intro j y hy
  by_cases e : j = i
  ·subst e
   rw [List.getElem?_set_self hi] at hy
   cases hy
   exact ⟨x, hx, rfl, rfl, rfl, rfl, .inr ⟨rfl, rfl⟩⟩
  ·rw [List.getElem?_set_ne (fun q => e q.symm)] at hy
   exact ⟨y, hy, rfl, rfl, rfl, rfl, .inl ⟨e, rfl⟩⟩
 refine ⟨s.hN, ⟨_, hset⟩, fun j y hy => ?_, fun j y hy hp => ?_, fun j k y z hjk hy hz hp1 hp2 => ?_⟩
 ·obtain ⟨z, hz, e4, e0, e1, e3, hor⟩ := hq j y hy
  obtain ⟨a, b, c, d, A, cc, f, g1, g2⟩ := s.el j z hz
  rw [e4] at f g1 g2
  rw [e0] at a
  rw [e1] at b
  rw [e3] at d
  refine ⟨(ho _ (by omega)).trans a, (ho _ (by omega)).trans b, ?_, (ho _ (by omega)).trans d, A, cc, (ho _ (by omega)).trans f, g1, g2⟩
  rcases hor with ⟨hne, rfl⟩ | ⟨rfl, e2⟩
  ·exact (ho _ (by omega)).trans c
  ·rw [e2]; exact hs
 ·obtain ⟨z, hz, e4, -⟩ := hq j y hy
  rw [← e4] at hp ⊢
  obtain ⟨a, ⟨cur', hc'⟩, c⟩ := s.mp j z hz hp
  have hne : G j ≠ h := blk_ne hc' hc (by decide)
  have e := Below.heap_setCell w ⟨h, i * 5 + 2, none⟩ (.int .i64 v) (G j) hne
  exact ⟨a, ⟨cur', e.trans hc'⟩, fun m u hu => ⟨(qH e _).trans (c m u hu).1, (qH e _).trans (c m u hu).2⟩⟩
 ·obtain ⟨y', hy', e4, -⟩ := hq j y hy
  obtain ⟨z', hz', e4', -⟩ := hq k z hz
  rw [← e4] at hp1
  rw [← e4'] at hp2
  exact s.ds j k y' z' hjk hy' hz' hp1 hp2
theorem ExAt.setVal (s : ExAt N w h G xs) {i m : Nat} {x : S72} {q : S69} (hx : xs[i]? = some x) (hm : x.f4[m]? = some q) (v : Int) : ExAt N (w.setCell ⟨G i, m * 2 + 1, none⟩ (.int .i64 v)) h G (xs.set i ⟨x.f0, x.f1, x.f2, x.f3, x.f4.set m ⟨q.f0, v⟩⟩) := by
 have hml : m < x.f4.length := (List.getElem?_eq_some_iff.1 hm).1
 have hp0 : 0 < x.f4.length := by omega
 obtain ⟨gN, ⟨cur, hc⟩, hv⟩ := s.mp i x hx hp0
 obtain ⟨curh, hch⟩ := s.hb
 have hset := qF hc (m * 2 + 1) (.int .i64 v)
 obtain ⟨hs, ho⟩ := set_cells hc (hv m q hm).2 (.int .i64 v)
 have hi : i < xs.length := (List.getElem?_eq_some_iff.1 hx).1
 have hne : h ≠ G i := blk_ne hch hc (by decide)
 have eh := Below.heap_setCell w ⟨G i, m * 2 + 1, none⟩ (.int .i64 v) h hne
 have hq : ∀ (j : Nat) (y : S72), (xs.set i ⟨x.f0, x.f1, x.f2, x.f3, x.f4.set m ⟨q.f0, v⟩⟩)[j]? = some y → ∃ z, xs[j]? = some z ∧ z.f4.length = y.f4.length ∧ z.f0 = y.f0 ∧ z.f1 = y.f1 ∧ z.f2 = y.f2 ∧ z.f3 = y.f3 ∧ ((j ≠ i ∧ z = y) ∨ (j = i ∧ z = x ∧ y.f4 = x.f4.set m ⟨q.f0, v⟩)) := by
  intro j y hy
  by_cases e : j = i
  ·subst e
   rw [List.getElem?_set_self hi] at hy
   cases hy
   exact ⟨x, hx, by simp, rfl, rfl, rfl, rfl, .inr ⟨rfl, rfl, rfl⟩⟩
  ·rw [List.getElem?_set_ne (fun q => e q.symm)] at hy
   exact ⟨y, hy, rfl, rfl, rfl, rfl, rfl, .inl ⟨e, rfl⟩⟩
 refine ⟨s.hN, ⟨curh, eh.trans hch⟩, fun j y hy => ?_, fun j y hy hp => ?_, fun j k y z hjk hy hz hp1 hp2 => ?_⟩
 ·obtain ⟨z, hz, e4, e0, e1, e2, e3, hor⟩ := hq j y hy
  obtain ⟨a, b, c, d, A, cc, f, g1, g2⟩ := s.el j z hz
  rw [e4] at f g1 g2
  rw [e0] at a
  rw [e1] at b
  rw [e2] at c
  rw [e3] at d
  exact ⟨(qH eh _).trans a, (qH eh _).trans b, (qH eh _).trans c, (qH eh _).trans d, A, cc, (qH eh _).trans f, g1, g2⟩
 ·obtain ⟨z, hz, e4, -, -, -, -, hor⟩ := hq j y hy
  rcases hor with ⟨hne', rfl⟩ | ⟨rfl, rfl, e5⟩
  ·obtain ⟨a, ⟨cur', hc'⟩, c⟩ := s.mp j z hz hp
   have hgg : G j ≠ G i := s.ds j i z x hne' hz hx hp hp0
   have e := Below.heap_setCell w ⟨G i, m * 2 + 1, none⟩ (.int .i64 v) (G j) hgg
   exact ⟨a, ⟨cur', e.trans hc'⟩, fun m u hu => ⟨(qH e _).trans (c m u hu).1, (qH e _).trans (c m u hu).2⟩⟩
  ·refine ⟨gN, ⟨_, hset⟩, fun m' u hu => ?_⟩
   rw [e5] at hu
   by_cases e : m' = m
   ·subst e
    rw [List.getElem?_set_self hml] at hu
    cases hu
    exact ⟨(ho _ (by omega)).trans (hv m' q hm).1, hs⟩
   ·rw [List.getElem?_set_ne (fun q => e q.symm)] at hu
    exact ⟨(ho _ (by omega)).trans (hv m' u hu).1, (ho _ (by omega)).trans (hv m' u hu).2⟩
 ·obtain ⟨y', hy', e4, -⟩ := hq j y hy
  obtain ⟨z', hz', e4', -⟩ := hq k z hz
  rw [← e4] at hp1
  rw [← e4'] at hp2
  exact s.ds j k y' z' hjk hy' hz' hp1 hp2
theorem ExAt.C (s : ExAt N w h G xs) (hl : xs.length ≤ 1000000) (hm : ∀ x ∈ xs, x.f4.length ≤ 1000000) : k72.C w (some ⟨h, 0, none⟩) xs.length xs := by
 refine ⟨rfl, by omega, fun _ => ⟨_, rfl, fun j p hj => ?_⟩⟩
 obtain ⟨a, b, c, d, A, cc, f, g1, g2⟩ := s.el j p hj
 have hpl := hm p (List.mem_of_getElem? hj)
 have hC4 : k69.C w A p.f4.length p.f4 := by
  refine ⟨rfl, by omega, fun hp => ⟨_, g2 hp, fun m v hv => ⟨_, rfl, k69_mk w v, fun i u hu => ?_⟩⟩⟩
  obtain ⟨-, -, hcv⟩ := s.mp j p hj hp
  rw [add_plain, show k69.sz = 2 from rfl]
  match i, hu with
  | 0, hu => cases hu; exact (hcv m v hv).1
  | 1, hu => cases hu; exact (hcv m v hv).2
  | i + 2, hu => simp at hu
 refine ⟨_, rfl, k72_mk w p g1 hC4, fun i v hv => ?_⟩
 rw [add_plain, show k72.sz = 5 from rfl]
 match i, hv with
 | 0, hv => cases hv; exact a
 | 1, hv => cases hv; exact b
 | 2, hv => cases hv; exact c
 | 3, hv => cases hv; exact d
 | 4, hv => cases hv; exact f
 | i + 5, hv => simp at hv
end
end Go.Proofs.Ytlnbghhhifnbdaa

namespace Go.Proofs.Ytlnbghhhifnbdaa
open Go.RowKit Go.Proofs.YtlnbghhhifnbdaaW.PrintWords Go.Proofs.YtlnbghhhifnbdaaW.PrintMore Go.Proofs.Ytlnbghhhifnbdaa.PNumberDoes
set_option linter.unusedVariables false
set_option linter.unusedSimpArgs false

def ExRow (N : Nat) (w : World) (G : Nat → Nat) (v : Value) (xs : List S72) : Prop := ∃ A c, v = .slice A xs.length c ∧ xs.length ≤ c ∧ (0 < xs.length → ∃ h, A = some ⟨h, 0, none⟩ ∧ ExAt N w h G xs)
def ClS (N : Nat) (w : World) (gc : Nat) (B : BlkV) : Prop := ∃ v0 v1 v2 G, N ≤ gc ∧ w.heap[gc]? = some (.cells #[v0, v1, v2, .int .i64 B.last] 75 (0, 0)) ∧ PartP N B v0 w ∧ PartO N B v1 w ∧ ExRow N w G v2 B.exits
structure CSd (wr : World) (B : BlkV) (h k : Nat) (G : Nat → Nat) : Prop where
 own : ∀ (i : Nat) (x : S72), i < k → B.exits[i]? = some x → 0 < x.f4.length → ∃ c, wr.cell? ⟨h, i * 5 + 4, none⟩ = some (.slice (some ⟨G i, 0, none⟩) x.f4.length c)
 ds : ∀ (i j : Nat) (x y : S72), i < j → j < k → B.exits[i]? = some x → B.exits[j]? = some y → 0 < x.f4.length → 0 < y.f4.length → G i ≠ G j
theorem CSd.zero {wr : World} {B : BlkV} {h : Nat} {G : Nat → Nat} : CSd wr B h 0 G := ⟨fun _ _ h => absurd h (Nat.not_lt_zero _), fun _ _ _ _ _ h => absurd h (Nat.not_lt_zero _)⟩
section
variable {w wr w1 : World} {B : BlkV} {gc h : Nat} {v0 v1 : Value} {cap k : Nat} {G : Nat → Nat}
theorem CSd.below (d : CSd wr B h k G) (hb : Below wr.heap.size wr w1) : CSd w1 B h k G := ⟨fun i x hi hx hp => by
 obtain ⟨c, hc⟩ := d.own i x hi hx hp
 exact ⟨c, cellk hb hc⟩, d.ds⟩
theorem CSd.lt (d : CSd wr B h k G) (s : CSt w wr B gc h v0 v1 cap k) : ∀ (i : Nat) (x : S72), i < k → B.exits[i]? = some x → 0 < x.f4.length → G i < wr.heap.size := fun i x hi hx hp => by
 obtain ⟨c, hc⟩ := d.own i x hi hx hp
 obtain ⟨-, -, -, -, u, hu, hr⟩ := s.el i x hx
 rw [hc] at hu
 cases hu
 rcases hr with ⟨_, hr⟩ | ⟨hk, _⟩
 ·exact Kd.R_lt hr (G i) rfl
 ·omega
theorem CSd.store (d : CSd wr B h k G) (s : CSt w wr B gc h v0 v1 cap k) (hk : k < B.exits.length) {A5 : Option Addr} {c5 M : Nat} (hlt : ∀ (i : Nat) (x : S72), i < k → B.exits[i]? = some x → 0 < x.f4.length → G i < M) (hr : Kd.R k69 69 wr M (fun _ => True) (.slice A5 B.exits[k].f4.length c5) B.exits[k].f4) :
  ∃ G, Hid (CSd (wr.setCell ⟨h, k * 5 + 4, none⟩ (.slice A5 B.exits[k].f4.length c5)) B h (k + 1) G) := by
 obtain ⟨cur, hc⟩ := s.hb
 obtain ⟨-, -, -, -, u4, hu4, -⟩ := s.el k _ (List.getElem?_eq_getElem hk)
 obtain ⟨hs, ho⟩ := set_cells hc hu4 (.slice A5 B.exits[k].f4.length c5)
 refine ⟨fun i => if i = k then (match A5 with | some a => a.block | none => 0) else G i, Lib.hid ⟨fun i x hi hx hp => ?_, fun i j x y hij hj hx hy hp1 hp2 => ?_⟩⟩
 ·by_cases e : i = k
  ·subst e
   rw [List.getElem?_eq_getElem hk] at hx
   cases hx
   obtain ⟨g, cap5, hv, hb, hl, -⟩ := Kd.R_form hr hp
   cases hv
   exact ⟨c5, by rw [hs]; simp⟩
  ·obtain ⟨c, hcc⟩ := d.own i x (by omega) hx hp
   exact ⟨c, by rw [ho _ (by omega), hcc, if_neg e]⟩
 ·have hi : i ≠ k := by omega
  show (if i = k then _ else G i) ≠ (if j = k then _ else G j)
  rw [if_neg hi]
  by_cases e : j = k
  ·subst e
   rw [if_pos rfl]
   rw [List.getElem?_eq_getElem hk] at hy
   cases hy
   obtain ⟨g, cap5, hv, hb, hl, -⟩ := Kd.R_form hr hp2
   cases hv
   have := hlt i x (by omega) hx hp1
   show G i ≠ g
   omega
  ·rw [if_neg e]
   exact d.ds i j x y hij (by omega) hx hy hp1 hp2
theorem CSt.made (s : CSt w wr B gc h v0 v1 cap B.exits.length) (d : CSd wr B h B.exits.length G) (hcap : B.exits.length ≤ cap) : ClS w.heap.size wr gc B := by
 refine ⟨v0, v1, _, G, s.gcN, s.blk, s.r0, s.r1, some ⟨h, 0, none⟩, cap, rfl, hcap, fun _ => ⟨h, rfl, s.hN, s.hb, fun i x hx => ?_, fun i x hx hp => ?_, fun i j x y hij hx hy hp1 hp2 => ?_⟩⟩
 ·have hi := (List.getElem?_eq_some_iff.1 hx).1
  obtain ⟨a, b, c, e, u, hu, hr⟩ := s.el i x hx
  rcases hr with ⟨_, hr⟩ | ⟨hk, _⟩
  case inr => omega
  obtain ⟨A, cc, rfl, hl, -⟩ := Kd.qP hr
  refine ⟨a, b, c, e, A, cc, hu, hl, fun hp => ?_⟩
  obtain ⟨c', hc'⟩ := d.own i x hi hx hp
  rw [hc'] at hu
  cases hu
  rfl
 ·have hi := (List.getElem?_eq_some_iff.1 hx).1
  obtain ⟨a, b, c, e, u, hu, hr⟩ := s.el i x hx
  obtain ⟨c', hc'⟩ := d.own i x hi hx hp
  rw [hc'] at hu
  cases hu
  rcases hr with ⟨_, hr⟩ | ⟨hk, _⟩
  case inr => omega
  obtain ⟨g, cap5, hv, hb, hl, ht⟩ := Kd.R_form hr hp
  obtain ⟨A, cc, hv2, -, hC⟩ := Kd.qP hr
  cases hv
  cases hv2
  refine ⟨hb, ht, fun m v hm => ?_⟩
  obtain ⟨ad, had, hall⟩ := hC.2.2 hp
  cases had
  obtain ⟨cs, -, hK, hce⟩ := hall m v hm
  obtain rfl := k69_open hK
  have h0 := hce 0 _ rfl
  have h1 := hce 1 _ rfl
  rw [add_plain] at h0 h1
  exact ⟨h0, h1⟩
 ·have hi := (List.getElem?_eq_some_iff.1 hx).1
  have hj := (List.getElem?_eq_some_iff.1 hy).1
  rcases Nat.lt_or_gt_of_ne hij with q | q
  ·exact d.ds i j x y q hj hx hy hp1 hp2
  ·exact (d.ds j i y x q hi hy hx hp2 hp1).symm
end
theorem PartX.cap {w wr : World} {B : BlkV} {v : Value} {gc h : Nat} {v0 v1 : Value} {cap k : Nat} (hx : PartX w.heap.size w B v wr) (hv : v = .pointer (some ⟨gc, 0, none⟩)) (s : CSt w wr B gc h v0 v1 cap k) : B.exits.length ≤ cap := by
 obtain ⟨gc', v0', v1', v2', hv', hg, hh, r0, r1, us, hl, r2, hall⟩ := hx
 rw [hv] at hv'
 cases hv'
 obtain ⟨A2, c2, rfl, hle, -⟩ := Kd.qP r2
 have e1 := s.blk
 rw [hh] at e1
 have e2 := (Obj.cells.inj (Option.some.inj e1)).1
 have e3 := congrArg (fun a : Array Value => a[2]?) e2
 simp at e3
 have hz : (List.zipWith exCs us B.exits).length = B.exits.length := by simp [hl]
 omega
theorem PartX.none_ {w wr : World} {B : BlkV} {v : Value} (h : PartX w.heap.size w B v wr) (hp : B.exits = []) : ∃ gc cc, v = .pointer (some ⟨gc, 0, none⟩) ∧ ClS w.heap.size wr gc B ∧ ∃ A2, wr.cell? ⟨gc, 2, none⟩ = some (.slice A2 0 cc) := by
 obtain ⟨gc, v0, v1, v2, rfl, hg, hh, r0, r1, us, hl, r2, hall⟩ := h
 have hz : List.zipWith exCs us B.exits = [] := by rw [hp]; simp
 rw [hz] at r2
 obtain ⟨A2, c2, rfl, -, -⟩ := Kd.qP r2
 exact ⟨gc, c2, rfl, ⟨v0, v1, _, fun _ => 0, hg, hh, r0, r1, A2, c2, by rw [hp]; rfl, by rw [hp]; exact Nat.zero_le _, fun h => by rw [hp] at h; exact absurd h (Nat.lt_irrefl 0)⟩, A2, by rw [qb hh]; rfl⟩
set_option maxHeartbeats 8000000 in
set_option maxRecDepth 100000 in
theorem irclone_s (B : BlkV) (g : Nat) (w : World) (hB : BlockAt w g B) (sB : SmallB B) :
  Calls Try.prog 61 #[.pointer (some ⟨g, 0, none⟩)] w fun e w' => (∃ gc, e = .returned (.pointer (some ⟨gc, 0, none⟩)) ∧ ClS w.heap.size w' gc B) ∧ Below w.heap.size w w' := by
 obtain ⟨A0, a0, pc0, k0⟩ := hB.pcs
 obtain ⟨A1, a1, pc1, k1⟩ := hB.ops
 obtain ⟨A2, a2, pc2, k2⟩ := hB.exits
 have pc3 := hB.last
 have HP := Lib.hid (fun v (hb : Below w.heap.size w v) => part_p B A0 a0 w.heap.size sB.p v hb.size (Kd.qp k0 hb))
 have HO := Lib.hid (fun v (hb : Below w.heap.size w v) => part_o B A1 a1 w.heap.size sB.o v hb.size (Kd.qp k1 hb))
 have HE := Lib.hid (fun v (hb : Below w.heap.size w v) => part_e w B A2 a2 sB.e k2 v hb)
 have HS := Lib.hid sB
 clear hB k0 k1 k2 sB
 go_enter Try.func61, Try.ntmps61
 go_upto_region 3 with fail
 refine wp_region_fc (by kernel_rfl) (by kernel_rfl) [.is (.pointer (some ⟨g, 0, none⟩)), .is (.pointer (some ⟨g, 0, none⟩)), .is (.pointer (some ⟨g, 0, none⟩)), .is (.slice A0 B.pcs.length a0), .any (PartP w.heap.size B) PartP.keep, .is (.pointer (some ⟨g, 0, none⟩)), .is (.pointer (some ⟨g, 0, none⟩)), .is (.pointer (some ⟨g, 1, none⟩)), .is (.slice A1 B.ops.length a1), .any (PartO w.heap.size B) PartO.keep, .is (.pointer (some ⟨g, 0, none⟩)), .is (.pointer (some ⟨g, 0, none⟩)), .is (.pointer (some ⟨g, 2, none⟩)), .is (.slice A2 B.exits.length a2), .any (PartE w.heap.size w B) PartE.keep, .is (.pointer (some ⟨g, 0, none⟩)), .is (.pointer (some ⟨g, 0, none⟩)), .is (.pointer (some ⟨g, 3, none⟩)), .is (.int .i64 B.last), .any (PartB w.heap.size w B) PartB.keep, .any (PartX w.heap.size w B) PartX.keep, .any (PartX w.heap.size w B) PartX.keep] ?_ ?_
 ·intro vs w' hb'
  have x0 := cellk hb' pc0
  have x1 := cellk hb' pc1
  have x2 := cellk hb' pc2
  have x3 := cellk hb' pc3
  have HBW := Lib.hid hb'
  have hsz := hb'.size
  clear pc0 pc1 pc2 pc3
  simp only [factSteps, putAll, Act.put, List.setIfInBounds_toArray, List.set_cons_zero, List.set_cons_succ]
  refine ⟨?_, ?_, ?_, ?_, ?_, ?_, ?_, ?_, ?_, ?_, ?_, ?_, ?_, ?_, ?_, ?_, ?_, ?_, ?_, ?_, ?_, ?_, trivial⟩
  all_goals
   intro he
   simp only [factEdges, Region.binds, List.getD_cons_zero, List.getD_cons_succ, Fc.holds, true_implies, and_true] at he
   try simp only [and_self] at he
   first | (obtain ⟨h4, h9, h14, h18⟩ : PartP w.heap.size B (vs 4) w' ∧ PartO w.heap.size B (vs 9) w' ∧ PartE w.heap.size w B (vs 14) w' ∧ vs 18 = .int .i64 B.last := he; obtain ⟨Z0, z0, q0⟩ := PartP.form h4; obtain ⟨Z1, z1, q1⟩ := PartO.form h9; obtain ⟨Z2, z2, q2⟩ := PartE.form h14; rw [q0] at h4; rw [q1] at h9; rw [q2] at h14; simp only [q0, q1, q2, h18]) | (obtain ⟨v0, v1, v2, hv, h4, h9, h14⟩ : PartB w.heap.size w B (vs 19) w' := he; obtain ⟨Z0, z0, rfl⟩ := PartP.form h4; obtain ⟨Z1, z1, rfl⟩ := PartO.form h9; obtain ⟨Z2, z2, rfl⟩ := PartE.form h14; simp only [hv]) | (simp only [he]) | skip
   go_wp2_with (first | (go_at_call 68; refine (HP.out _ HBW.out).mono ?_; rintro e w5 ⟨⟨u, rfl, hr5⟩, hb5⟩) | (go_at_call 89; refine (HO.out _ HBW.out).mono ?_; rintro e w5 ⟨⟨u, rfl, hr5⟩, hb5⟩) | (go_at_call 90; refine (HE.out _ HBW.out).mono ?_; rintro e w5 ⟨⟨u, rfl, hr5⟩, hb5⟩))
   first
    | exact ⟨rfl, Below.refl _ _⟩
    | exact Below.refl _ _
    | exact rfl
    | exact hr5
    | exact hb5
    | exact bal (Below.refl _ _) _
    | exact ⟨(show PartB w.heap.size w B _ _ from ⟨_, _, _, rfl, h4, h9, h14⟩), Below.refl _ _⟩
    | exact ⟨(show PartX w.heap.size w B _ _ from ⟨_, _, _, _, rfl, hsz, blk_new _ _, PartP.keep _ _ _ h4 (bal (Below.refl _ _) _), PartO.keep _ _ _ h9 (bal (Below.refl _ _) _), PartE.keep _ _ _ h14 (bal (Below.refl _ _) _)⟩), bal (Below.refl _ _) _⟩
    | exact ⟨(show PartX w.heap.size w B _ _ from he.1), Below.refl _ _⟩
 ·intro vs w' hb' hall
  simp only [factSteps, List.getD_cons_zero, List.getD_cons_succ, Fc.holds, and_true] at hall
  obtain ⟨-, -, -, -, -, -, -, -, -, -, -, -, -, -, -, -, -, -, -, -, -, e21⟩ := hall
  simp only [putAll, Act.put, List.setIfInBounds_toArray, List.set_cons_zero, List.set_cons_succ, Nat.zero_add, Nat.reduceAdd]
  clear HP HO HE pc0 pc1 pc2 pc3
  by_cases hz : B.exits = []
  ·obtain ⟨gc, cc, hv, hfr, A2, hc⟩ := e21.none_ hz
   have HF := Lib.hid hfr
   have HB := Lib.hid hb'
   clear e21 hfr hb' hz
   generalize vs 21 = v21 at *
   subst hv
   go_wp2
   go_loopw [33] (fun i wr => i = .int .i64 0 ∧ wr = w') (fun i _ => 0)
   case atStart => exact ⟨rfl, rfl⟩
   case round =>
    obtain ⟨rfl, rfl⟩ := hrel
    go_wp2
    go_ret
    exact ⟨⟨gc, rfl, HF.out⟩, HB.out⟩
  ·have hp : 0 < B.exits.length := List.length_pos_iff.2 hz
   obtain ⟨gc, h, v0, v1, cap, hv, s0⟩ := e21.start hb' hp
   have HS0 := Lib.hid s0
   have hc0 := s0.c2
   have hcap := e21.cap hv s0
   clear e21 hb' hz
   generalize vs 21 = v21 at *
   subst hv
   go_wp2
   go_loopw [33] (fun i wr => ∃ k : Nat, k ≤ B.exits.length ∧ i = .int .i64 k ∧ Hid (CSt w wr B gc h v0 v1 cap k) ∧ ∃ G, Hid (CSd wr B h k G)) (fun i _ => B.exits.length - (intOf i).toNat)
   case atStart => exact ⟨0, Nat.zero_le _, rfl, HS0, fun _ => 0, Lib.hid CSd.zero⟩
   case round =>
    clear HS0 s0 hc0
    obtain ⟨k, hk, rfl, HC, G, HD⟩ := hrel
    by_cases hlt : k < B.exits.length
    ·obtain ⟨A4, c4, d4, k4⟩ := HC.out.m hlt
     have e2 := HC.out.c2
     have ef := HC.out.fz (k * 5 + 4)
     have hgl : h < wr.heap.size := HC.out.lt
     have hm := HS.out.m _ (List.getElem_mem hlt)
     have hle := HS.out.e
     have HCV := Lib.hid (fun v (hb : Below wr.heap.size wr v) => clone_v A4 c4 _ B.exits[k].f4 hm v (Kd.qp k4 hb))
     clear k4
     go_wp2
     have HC' := Lib.hid (HC.out.below (bdn (Below.refl _ _) 1))
     have HB' := Lib.hid (bdn (Below.refl wr.heap.size wr) 1)
     go_region_law (go_simp; go_at_call 91; refine (HCV.out _ HB'.out).mono ?_; rintro e w3 ⟨⟨u, rfl, hr3⟩, hb3⟩; obtain ⟨A5, c5, rfl⟩ := Kd.R_slice hr3; have HR3 := Lib.hid hr3; have HC3 := Lib.hid (HC'.out.below hb3); have HD3 := Lib.hid ((HD.out.below (bdn (Below.refl _ _) 1)).below hb3); have HLT := Lib.hid (HD.out.lt HC.out); have f2 := HC3.out.c2; have ff := HC3.out.fz (k * 5 + 4); have hl3 : h < w3.heap.size := HC3.out.lt; obtain ⟨-, -, -, -, u4, hu4, -⟩ := HC3.out.el k _ (List.getElem?_eq_getElem hlt); clear hr3 hb3)
     all_goals
      go_wp2
      go_roundw
      case rel => exact ⟨k + 1, by omega, by go_num, Lib.hid (HC3.out.store hlt _ (fun x hx => by rw [List.getElem?_eq_getElem hlt] at hx; cases hx; exact Kd.R_lower HR3.out HC'.out.bel.size)), HD3.out.store HC3.out hlt HLT.out HR3.out⟩
      case measure => simp [intOf]; omega
    ·have hke : k = B.exits.length := by omega
     subst hke
     have HF := Lib.hid (HC.out.made HD.out hcap)
     have HB := Lib.hid HC.out.bel
     have e2 := HC.out.c2
     clear HC HS hlt HD
     go_wp2
     go_ret
     exact ⟨⟨gc, rfl, HF.out⟩, HB.out⟩
end Go.Proofs.Ytlnbghhhifnbdaa
