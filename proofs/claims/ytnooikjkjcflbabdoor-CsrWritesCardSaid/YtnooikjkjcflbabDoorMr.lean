/- Contracts of the reference of layer 9 and of mask.Number, Legal, Writes. Conditions: the listed variable holds what the program's text lays in it; words are words. -/
import Derived.Test.YtnooikjkjcflbabDoorMf
namespace Go.Proofs.YtnooikjkjcflbabDoor
open Go.RowKit
set_option linter.unusedVariables false
set_option linter.unusedSimpArgs false

theorem arr_cell (w : World) (l : List Value) (t j : Nat) : (w.alloc (.cells l.toArray t)).cell? ⟨w.heap.size, j, none⟩ = l[j]? := by
  simp [go_sem]
def rowA (i : Nat) : MRow := rowsL.getD i ⟨0, [], 0, 0⟩
theorem row_map (f : MRow → Value) (j : Nat) (h : j < 23) : (rowsL.map f)[j]? = some (f (rowAt j)) := by
  have hl : rowsL.length = 23 := rfl
  rw [List.getElem?_map, List.getElem?_eq_getElem (by omega)]
  unfold rowAt
  rw [List.getD_eq_getElem?_getD, List.getElem?_eq_getElem (by omega)]
  rfl
set_option maxRecDepth 100000 in
theorem rnums_c (w : World) : Calls Tryd.prog 61 #[] w fun e w' => e = .returned (.slice (some ⟨w.heap.size, 0, none⟩) 23 23) ∧ w.alloc (.cells (rowsL.map fun r => .int .i64 r.num).toArray 3) = w' := by
  go_enter Tryd.func61, Tryd.ntmps61
  go_wp2
  go_ret
  exact ⟨rfl, rfl⟩
set_option maxRecDepth 100000 in
set_option maxRecDepth 100000 in
theorem rkept_c (w : World) : Calls Tryd.prog 79 #[] w fun e w' => e = .returned (.slice (some ⟨w.heap.size, 0, none⟩) 23 23) ∧ w.alloc (.cells (rowsL.map fun r => .int .u32 r.kept).toArray 22) = w' := by
  go_enter Tryd.func79, Tryd.ntmps79
  go_wp2
  go_ret
  exact ⟨rfl, rfl⟩
set_option maxRecDepth 100000 in
theorem rfixed_c (w : World) : Calls Tryd.prog 80 #[] w fun e w' => e = .returned (.slice (some ⟨w.heap.size, 0, none⟩) 23 23) ∧ w.alloc (.cells (rowsL.map fun r => .int .u32 r.fixed).toArray 22) = w' := by
  go_enter Tryd.func80, Tryd.ntmps80
  go_wp2
  go_ret
  exact ⟨rfl, rfl⟩
theorem place_c (csr : Int) (w : World) : Calls Tryd.prog 28 #[.int .i64 csr] w fun e w' => (∃ v, e = .returned (.int .i64 v) ∧ FirstRow (fun r => r.num == csr) v) ∧ Below w.heap.size w w' := by
  have hc : ∀ j, j < 23 → (w.alloc (.cells (rowsL.map fun r => .int .i64 r.num).toArray 3)).cell? ⟨w.heap.size, j, none⟩ = some (.int .i64 (rowAt j).num) := fun j hj => by rw [arr_cell, row_map _ j hj]
  have hbl : Below w.heap.size w (w.alloc (.cells (rowsL.map fun r => .int .i64 r.num).toArray 3)) := bal (Below.refl _ _) _
  have HC := Lib.hid hc
  clear hc
  go_enter Tryd.func28, Tryd.ntmps28
  go_wp2_with fail
  refine (rnums_c _).mono ?_
  rintro e w' ⟨rfl, hw⟩
  rw [hw] at HC hbl
  clear hw
  have hz : w.heap.size ≤ w'.heap.size := hbl.size
  go_wp2
  go_loop [4] (fun i => ∃ k : Nat, k ≤ 23 ∧ i = .int .i64 k ∧ NoRow (fun r => r.num == csr) k) (fun i => 23 - (intOf i).toNat)
  case atStart => exact ⟨0, by omega, rfl, fun j h => by omega⟩
  case round =>
    obtain ⟨k, hk, rfl, hn⟩ := hrel
    by_cases hlt : k < 23
    · have c0 := HC.out k hlt
      rcases Bool.eq_false_or_eq_true ((rowAt k).num == csr) with hp | hp
      · go_wp2
        go_ret
        exact ⟨⟨_, rfl, .inl ⟨k, hlt, by simpa using hp, hn, rfl⟩⟩, hbl⟩
      · go_wp2
        go_round
        case rel => exact ⟨k + 1, by omega, by go_num, fun j hj => by rcases Nat.lt_succ_iff_lt_or_eq.mp hj with h | h; exact hn j h; subst h; exact hp⟩
        case measure => simp [intOf]; omega
    · have hk8 : k = 23 := by omega
      subst hk8
      go_wp2
      go_ret
      exact ⟨⟨_, rfl, .inr ⟨hn, rfl⟩⟩, hbl⟩
theorem FirstRow.unique {p : MRow → Bool} {v v' : Int} (h : FirstRow p v) (h' : FirstRow p v') : v = v' := by
  rcases h with ⟨k, hk, hp, hn, rfl⟩ | ⟨hn, rfl⟩ <;> rcases h' with ⟨k', hk', hp', hn', rfl⟩ | ⟨hn', rfl⟩
  · rcases Nat.lt_trichotomy k k' with h | h | h
    · have := hn' k h; rw [hp] at this; cases this
    · rw [h]
    · have := hn k' h; rw [hp'] at this; cases this
  · have := hn' k hk; rw [hp] at this; cases this
  · have := hn k' hk'; rw [hp'] at this; cases this
  · rfl
theorem rfast_c (csr : Int) (h : 0 ≤ csr) (h2 : csr ≤ 4095) (w : World) : Calls Tryd.prog 30 #[.int .i64 csr] w fun e w' => e = .returned (.bool (csr / 1024 % 4 == 3)) ∧ w = w' := by
  go_enter Tryd.func30, Tryd.ntmps30
  go_wp2
  go_ret
  exact ⟨rfl, rfl⟩
def wrB (op rs1 imm : Int) : Bool := if op = 42 ∨ op = 45 then true else if op = 43 ∨ op = 44 then rs1 != 0 else if op = 46 ∨ op = 47 then imm != 0 else false
def NumberIs (s : ByteArray) (v : Value) : Prop :=
  (∃ k : Nat, k < 23 ∧ sB ⟨(rowAt k).name.toArray⟩ s = true ∧ NoRow (fun r => sB ⟨r.name.toArray⟩ s) k ∧ v = .tuple #[.int .i64 (rowAt k).num, .int .i64 0]) ∨
  (NoRow (fun r => sB ⟨r.name.toArray⟩ s) 23 ∧ v = .tuple #[.int .i64 0, .int .i64 8])
def legV (k : Nat) (x : Int) : Int := bits .or .u32 (bits .and .u32 x (rowAt k).kept) (rowAt k).fixed
def LegalIs (csr x : Int) (v : Value) : Prop :=
  (∃ k : Nat, k < 23 ∧ (rowAt k).num = csr ∧ NoRow (fun r => r.num == csr) k ∧ v = .tuple #[.int .u32 (legV k x), .int .i64 0]) ∨
  (NoRow (fun r => r.num == csr) 23 ∧ v = .tuple #[.int .u32 0, .int .i64 8])
theorem legal_c (csr x : Int) (w : World) (hr : RowsIs w) : Calls Tryd.prog 58 #[.int .i64 csr, .int .u32 x] w fun e w' => (∃ v, e = .returned v ∧ LegalIs csr x v) ∧ Below w.heap.size w w' := by
  have HR := Lib.hid hr
  clear hr
  go_enter Tryd.func58, Tryd.ntmps58
  go_wp2_with fail
  refine (find_c csr _ HR.out).mono ?_
  rintro e w1 ⟨⟨v, rfl, hv⟩, hb1⟩
  rcases hv with ⟨k, hk, hp, hn, rfl⟩ | ⟨hn, rfl⟩
  · go_wp2
    go_ret2
    exact ⟨⟨_, rfl, .inl ⟨k, hk, hp, hn, rfl⟩⟩, by repeat (first | exact hb1 | refine Below.alloc ?_ (by have := hb1.size; simp; try omega) _ | (refine bset ?_ (by have := hb1.size; simp; try omega) _) | refine bdn ?_ _)⟩
  · go_wp2
    go_ret2
    exact ⟨⟨_, rfl, .inr ⟨hn, rfl⟩⟩, by repeat (first | exact hb1 | refine Below.alloc ?_ (by have := hb1.size; simp; try omega) _ | (refine bset ?_ (by have := hb1.size; simp; try omega) _) | refine bdn ?_ _)⟩
end Go.Proofs.YtnooikjkjcflbabDoor
