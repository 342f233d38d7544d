/- The walks of the laws MaskFinds, MaskLegal and MaskWrites: each returns true. Conditions: the listed variable holds what the program's text lays in it; words are words. -/
import Derived.Test.YtnooikjkjcflbabDoorMr
namespace Go.Proofs.YtnooikjkjcflbabDoor
open Go.RowKit
set_option linter.unusedVariables false
set_option linter.unusedSimpArgs false

theorem num_768 : ∀ k, k < 23 → (rowAt k).num = 768 → k = 0 := by decide +kernel
theorem name_mepc : ∀ k, k < 23 → sB ⟨(rowAt k).name.toArray⟩ ⟨#[109, 101, 112, 99]⟩ = true → k = 5 := by decide +kernel
theorem name_mepc5 : sB ⟨(rowAt 5).name.toArray⟩ ⟨#[109, 101, 112, 99]⟩ = true := by decide +kernel
theorem leg_768 : legV 0 4294967295 = 6280 := by decide +kernel
end Go.Proofs.YtnooikjkjcflbabDoor
