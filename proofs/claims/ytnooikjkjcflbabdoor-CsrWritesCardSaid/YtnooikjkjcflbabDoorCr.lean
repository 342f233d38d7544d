/- Contracts of package csr's kept, counted and Read, and of the reference's Read of layer 16. Conditions: numbers are of their kinds; the listed variable holds what the program's text lays in it. -/
import Derived.Test.YtnooikjkjcflbabDoorMl
namespace Go.Proofs.YtnooikjkjcflbabDoor
open Go.RowKit
set_option linter.unusedVariables false
set_option linter.unusedSimpArgs false

def keptV (b : Nat) (csr : Int) : Value :=
  if csr = 768 then .pointer (some ⟨b, 0, none⟩) else if csr = 772 then .pointer (some ⟨b, 1, none⟩) else if csr = 773 then .pointer (some ⟨b, 2, none⟩)
  else if csr = 832 then .pointer (some ⟨b, 3, none⟩) else if csr = 833 then .pointer (some ⟨b, 4, none⟩) else if csr = 834 then .pointer (some ⟨b, 5, none⟩) else if csr = 835 then .pointer (some ⟨b, 6, none⟩) else .pointer none
theorem kept_c (b : Nat) (csr : Int) (w : World) : Calls Tryd.prog 57 #[.pointer (some ⟨b, 0, none⟩), .int .i64 csr] w fun e w' => e = .returned (keptV b csr) ∧ w = w' := by
  rcases (by omega : csr = 768 ∨ csr = 772 ∨ csr = 773 ∨ csr = 832 ∨ csr = 833 ∨ csr = 834 ∨ csr = 835 ∨ (¬ csr = 768 ∧ ¬ csr = 772 ∧ ¬ csr = 773 ∧ ¬ csr = 832 ∧ ¬ csr = 833 ∧ ¬ csr = 834 ∧ ¬ csr = 835)) with rfl | rfl | rfl | rfl | rfl | rfl | rfl | ⟨h1, h2, h3, h4, h5, h6, h7⟩
  all_goals
    try (have k1 := nb h1
         have k2 := nb h2
         have k3 := nb h3
         have k4 := nb h4
         have k5 := nb h5
         have k6 := nb h6
         have k7 := nb h7)
    go_enter Tryd.func57, Tryd.ntmps57
    go_wp2
    go_ret
    exact ⟨by simp [keptV, *], rfl⟩
/-- A counted register's number, and is it one? (m: the number without the bit of the upper half.) -/
def cntV (m c i t r ti : Int) : Int := if m = 2816 ∨ m = 3072 then IntKind.u64.wrap (t + c) else if m = 2818 ∨ m = 3074 then IntKind.u64.wrap (r + i) else if m = 3073 then ti else 0
def cntB (m : Int) : Bool := m == 2816 || m == 3072 || m == 2818 || m == 3074 || m == 3073
set_option maxHeartbeats 2000000 in
theorem counted_c (b : Nat) (csr c i t r ti ca : Int) (w : World) (hc : w.cell? ⟨b, 7, none⟩ = some (.int .u64 c)) (hi : w.cell? ⟨b, 8, none⟩ = some (.int .u64 i)) :
    Calls Tryd.prog 59 #[.pointer (some ⟨b, 0, none⟩), .int .i64 csr, .agg #[.int .u64 t, .int .u64 r, .int .u64 ti, .int .u32 ca]] w fun e w' =>
      e = .returned (.tuple #[.int .u64 (cntV (bits .andNot .i64 csr 128) c i t r ti), .bool (cntB (bits .andNot .i64 csr 128))]) ∧ Below w.heap.size w w' := by
  have hlt : b < w.heap.size := World.block_lt_of_cell? w ⟨b, 7, none⟩ hc
  have hne : ¬ b = w.heap.size := by omega
  generalize hm : bits .andNot .i64 csr 128 = m
  rcases (by omega : m = 2816 ∨ m = 3072 ∨ m = 2818 ∨ m = 3074 ∨ m = 3073 ∨ (¬ m = 2816 ∧ ¬ m = 3072 ∧ ¬ m = 2818 ∧ ¬ m = 3074 ∧ ¬ m = 3073)) with rfl | rfl | rfl | rfl | rfl | ⟨h1, h2, h3, h4, h5⟩
  all_goals
    try (have k1 := nb h1
         have k2 := nb h2
         have k3 := nb h3
         have k4 := nb h4
         have k5 := nb h5)
    go_enter Tryd.func59, Tryd.ntmps59
    go_wp2
    try (go_quiet (fail)
         go_wp2)
    go_ret2
    exact ⟨by simp [cntV, cntB, *], by repeat (first | exact Below.refl _ _ | refine bal ?_ _ | refine Below.drew ?_ | refine bdn ?_ _)⟩
end Go.Proofs.YtnooikjkjcflbabDoor
