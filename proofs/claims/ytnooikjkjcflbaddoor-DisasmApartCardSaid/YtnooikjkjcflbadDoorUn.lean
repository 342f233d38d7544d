/- Contract of the reference's Names of layer 2. Conditions: none. -/
import Derived.Test.YtnooikjkjcflbadDoorUd
namespace Go.Proofs.YtnooikjkjcflbadDoor
open Go.RowKit
set_option linter.unusedVariables false
set_option linter.unusedSimpArgs false

set_option maxRecDepth 100000 in
theorem rnames2_c (w : World) : Calls Tryd.prog 52 #[] w fun e w' => e = .returned (.slice (some ⟨w.heap.size, 0, none⟩) 58 58) ∧ w.alloc (.cells (namesL.map fun s => Value.string ⟨s.toArray⟩).toArray 9) = w' := by
  go_enter Tryd.func52, Tryd.ntmps52
  go_wp2
  go_ret
  exact ⟨rfl, rfl⟩
theorem nm_cell (k : Nat) (hk : k < 58) (w : World) (t : Nat) : (w.alloc (.cells (namesL.map fun s => Value.string ⟨s.toArray⟩).toArray t)).cell? ⟨w.heap.size, k, none⟩ = some (.string (nameAt k)) := by
  have hl : namesL.length = 58 := rfl
  have h1 : (w.alloc (.cells (namesL.map fun s => Value.string ⟨s.toArray⟩).toArray t)).cell? ⟨w.heap.size, k, none⟩ = (namesL.map fun s => Value.string ⟨s.toArray⟩)[k]? := by simp [go_sem]
  rw [h1, List.getElem?_map, List.getElem?_eq_getElem (by omega)]
  simp [nameAt, hl, hk]
end Go.Proofs.YtnooikjkjcflbadDoor
