/- The program's forms and the reference's are one. Conditions: none. -/
import Derived.Test.YtnooikjkjcflbadDoorIr2
namespace Go.Proofs.YtnooikjkjcflbadDoor
open Go.RowKit
set_option linter.unusedVariables false
set_option linter.unusedSimpArgs false

theorem form_eq : ∀ i, i < 58 → rformV ((i : Nat) : Int) = formsAt i := by decide +kernel
end Go.Proofs.YtnooikjkjcflbadDoor
