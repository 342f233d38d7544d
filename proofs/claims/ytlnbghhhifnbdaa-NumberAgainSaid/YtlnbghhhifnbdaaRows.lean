/-
  No cell of these rows narrows 'for every input' (looked for: loops, veiled, ifaces, maps, wideKeys, modest, calm, conditions, laid).
  DERIVED. THE GIVEN ROWS OF THIS SEAT. 8 by the template 'for every input the law returns true; each argument reads behind the call as it read before'; 0 by the template 'total and deterministic' (their statements: YtlnbghhhifnbdaaTotals.lean).
  GIVEN WITH THE SEED: the statements are not yours to turn. If you find one false, say at which input.
  Laid BY PROGRAM, IN A SANDBOX (cutbox-rows.mjs): the forced cells as the released guide's own fill.sh prints them over the translation e2c62f3c527baeac… (all of the seat's roots in one cut). By AI agents, Wed Nov 11 2026. No macro, syntax, notation, axiom, sorry.
-/
import Derived.Test.YtlnbghhhifnbdaaChecked
import GoSem.Claim
import GoSem.ClaimJoined
import GoSem.ClaimMapViews
import Derived.JoinedTies
import Derived.KernelRfl
namespace Go.Proofs.Ytlnbghhhifnbdaa
/- THE CELL 'sum', in the pinned program and in every row, IS THE sha256 OF THE DUMP (.gsa) THAT YtlnbghhhifnbdaaProg.lean LOADS. Nothing in Lean hashes anything: it is a label: what it is worth is what the hold of that sum in a sandbox is worth. -/
noncomputable def Try.pinned : Pinned := { name := "ytlnbghhhifnbdaa", sum := "e2c62f3c527baeac82eda68f25af4a5c1804ec442ff8ea2d2c2283aa52f75da6", checked := Try.checked }
namespace Rows
def none {H : Type} : Left H := { results := [], args := [] }

/-- 'mimesislaw30.DeadSame': WHATEVER THE INPUT: true; the input reads as it did. -/
def deadSameSpec : ChangeSpec := { name := "deadSame", fn := fun _ => fun
  | [d1, d2] => { results := [.lit (.bool true)], args := [d1, d2] }
  | _ => none }
def deadSameRow : OpenClaim := { program := "ytlnbghhhifnbdaa", sum := "e2c62f3c527baeac82eda68f25af4a5c1804ec442ff8ea2d2c2283aa52f75da6", func := "mimesis/mimesislaw30.DeadSame", spec := "deadSame", unfollowed := true, recurses := true, apart := false }
def DeadSameSaid : Prop := deadSameRow.holds Try.pinned (OpenSpec.ofChange deadSameSpec)

/-- ITS FALSE NEIGHBOUR: 'it returns false'. Refute it at one input. -/
def deadSameWrong : ChangeSpec := { name := "deadSame", fn := fun _ => fun
  | [d1, d2] => { results := [.lit (.bool false)], args := [d1, d2] }
  | _ => none }
def DeadSameWrongFalsely : Prop := deadSameRow.holds Try.pinned (OpenSpec.ofChange deadSameWrong)

/-- 'mimesislaw30.DeadDoes': WHATEVER THE INPUT: true; the input reads as it did. -/
def deadDoesSpec : ChangeSpec := { name := "deadDoes", fn := fun _ => fun
  | [d] => { results := [.lit (.bool true)], args := [d] }
  | _ => none }
def deadDoesRow : OpenClaim := { program := "ytlnbghhhifnbdaa", sum := "e2c62f3c527baeac82eda68f25af4a5c1804ec442ff8ea2d2c2283aa52f75da6", func := "mimesis/mimesislaw30.DeadDoes", spec := "deadDoes", unfollowed := true, recurses := true, apart := false }
def DeadDoesSaid : Prop := deadDoesRow.holds Try.pinned (OpenSpec.ofChange deadDoesSpec)

/-- ITS FALSE NEIGHBOUR: 'it returns false'. Refute it at one input. -/
def deadDoesWrong : ChangeSpec := { name := "deadDoes", fn := fun _ => fun
  | [d] => { results := [.lit (.bool false)], args := [d] }
  | _ => none }
def DeadDoesWrongFalsely : Prop := deadDoesRow.holds Try.pinned (OpenSpec.ofChange deadDoesWrong)

/-- 'mimesislaw30.DeadAgain': WHATEVER THE INPUT: true; the input reads as it did. -/
def deadAgainSpec : ChangeSpec := { name := "deadAgain", fn := fun _ => fun
  | [d] => { results := [.lit (.bool true)], args := [d] }
  | _ => none }
def deadAgainRow : OpenClaim := { program := "ytlnbghhhifnbdaa", sum := "e2c62f3c527baeac82eda68f25af4a5c1804ec442ff8ea2d2c2283aa52f75da6", func := "mimesis/mimesislaw30.DeadAgain", spec := "deadAgain", unfollowed := true, recurses := true, apart := false }
def DeadAgainSaid : Prop := deadAgainRow.holds Try.pinned (OpenSpec.ofChange deadAgainSpec)

/-- ITS FALSE NEIGHBOUR: 'it returns false'. Refute it at one input. -/
def deadAgainWrong : ChangeSpec := { name := "deadAgain", fn := fun _ => fun
  | [d] => { results := [.lit (.bool false)], args := [d] }
  | _ => none }
def DeadAgainWrongFalsely : Prop := deadAgainRow.holds Try.pinned (OpenSpec.ofChange deadAgainWrong)

/-- 'mimesislaw29.NumberDoes': WHATEVER THE INPUT: true; the input reads as it did. -/
def numberDoesSpec : ChangeSpec := { name := "numberDoes", fn := fun _ => fun
  | [d] => { results := [.lit (.bool true)], args := [d] }
  | _ => none }
def numberDoesRow : OpenClaim := { program := "ytlnbghhhifnbdaa", sum := "e2c62f3c527baeac82eda68f25af4a5c1804ec442ff8ea2d2c2283aa52f75da6", func := "mimesis/mimesislaw29.NumberDoes", spec := "numberDoes", unfollowed := true, recurses := true, apart := false }
def NumberDoesSaid : Prop := numberDoesRow.holds Try.pinned (OpenSpec.ofChange numberDoesSpec)

/-- ITS FALSE NEIGHBOUR: 'it returns false'. Refute it at one input. -/
def numberDoesWrong : ChangeSpec := { name := "numberDoes", fn := fun _ => fun
  | [d] => { results := [.lit (.bool false)], args := [d] }
  | _ => none }
def NumberDoesWrongFalsely : Prop := numberDoesRow.holds Try.pinned (OpenSpec.ofChange numberDoesWrong)

/-- 'mimesislaw29.NumberSame': WHATEVER THE INPUT: true; the input reads as it did. -/
def numberSameSpec : ChangeSpec := { name := "numberSame", fn := fun _ => fun
  | [d1, d2] => { results := [.lit (.bool true)], args := [d1, d2] }
  | _ => none }
def numberSameRow : OpenClaim := { program := "ytlnbghhhifnbdaa", sum := "e2c62f3c527baeac82eda68f25af4a5c1804ec442ff8ea2d2c2283aa52f75da6", func := "mimesis/mimesislaw29.NumberSame", spec := "numberSame", unfollowed := true, recurses := true, apart := false }
def NumberSameSaid : Prop := numberSameRow.holds Try.pinned (OpenSpec.ofChange numberSameSpec)

/-- ITS FALSE NEIGHBOUR: 'it returns false'. Refute it at one input. -/
def numberSameWrong : ChangeSpec := { name := "numberSame", fn := fun _ => fun
  | [d1, d2] => { results := [.lit (.bool false)], args := [d1, d2] }
  | _ => none }
def NumberSameWrongFalsely : Prop := numberSameRow.holds Try.pinned (OpenSpec.ofChange numberSameWrong)

/-- 'mimesislaw29.NumberAgain': WHATEVER THE INPUT: true; the input reads as it did. -/
def numberAgainSpec : ChangeSpec := { name := "numberAgain", fn := fun _ => fun
  | [d] => { results := [.lit (.bool true)], args := [d] }
  | _ => none }
def numberAgainRow : OpenClaim := { program := "ytlnbghhhifnbdaa", sum := "e2c62f3c527baeac82eda68f25af4a5c1804ec442ff8ea2d2c2283aa52f75da6", func := "mimesis/mimesislaw29.NumberAgain", spec := "numberAgain", unfollowed := true, recurses := true, apart := false }
def NumberAgainSaid : Prop := numberAgainRow.holds Try.pinned (OpenSpec.ofChange numberAgainSpec)

/-- ITS FALSE NEIGHBOUR: 'it returns false'. Refute it at one input. -/
def numberAgainWrong : ChangeSpec := { name := "numberAgain", fn := fun _ => fun
  | [d] => { results := [.lit (.bool false)], args := [d] }
  | _ => none }
def NumberAgainWrongFalsely : Prop := numberAgainRow.holds Try.pinned (OpenSpec.ofChange numberAgainWrong)

/-- 'mimesislaw31.GuardSame': WHATEVER THE INPUT: true; the input reads as it did. -/
def guardSameSpec : ChangeSpec := { name := "guardSame", fn := fun _ => fun
  | [d1, d2] => { results := [.lit (.bool true)], args := [d1, d2] }
  | _ => none }
def guardSameRow : OpenClaim := { program := "ytlnbghhhifnbdaa", sum := "e2c62f3c527baeac82eda68f25af4a5c1804ec442ff8ea2d2c2283aa52f75da6", func := "mimesis/mimesislaw31.GuardSame", spec := "guardSame", unfollowed := true, recurses := true, apart := false }
def GuardSameSaid : Prop := guardSameRow.holds Try.pinned (OpenSpec.ofChange guardSameSpec)

/-- ITS FALSE NEIGHBOUR: 'it returns false'. Refute it at one input. -/
def guardSameWrong : ChangeSpec := { name := "guardSame", fn := fun _ => fun
  | [d1, d2] => { results := [.lit (.bool false)], args := [d1, d2] }
  | _ => none }
def GuardSameWrongFalsely : Prop := guardSameRow.holds Try.pinned (OpenSpec.ofChange guardSameWrong)

/-- 'mimesislaw31.GuardDoes': WHATEVER THE INPUT: true; the input reads as it did. -/
def guardDoesSpec : ChangeSpec := { name := "guardDoes", fn := fun _ => fun
  | [d] => { results := [.lit (.bool true)], args := [d] }
  | _ => none }
def guardDoesRow : OpenClaim := { program := "ytlnbghhhifnbdaa", sum := "e2c62f3c527baeac82eda68f25af4a5c1804ec442ff8ea2d2c2283aa52f75da6", func := "mimesis/mimesislaw31.GuardDoes", spec := "guardDoes", unfollowed := true, recurses := true, apart := false }
def GuardDoesSaid : Prop := guardDoesRow.holds Try.pinned (OpenSpec.ofChange guardDoesSpec)

/-- ITS FALSE NEIGHBOUR: 'it returns false'. Refute it at one input. -/
def guardDoesWrong : ChangeSpec := { name := "guardDoes", fn := fun _ => fun
  | [d] => { results := [.lit (.bool false)], args := [d] }
  | _ => none }
def GuardDoesWrongFalsely : Prop := guardDoesRow.holds Try.pinned (OpenSpec.ofChange guardDoesWrong)

/- THE SECOND FORM. 'bulk': how many values and letters a reading holds, each counted each time it is reached (what is shared counts as often as it is met; a slice's spare places count too). A statement '..UptoSaid' is the law's where the arguments, and the package variables that the reading takes, are together of bulk at most 1048576: NARROWER than '..Said'. Prove '..Said' where nothing that the law and all that it calls make is longer than what came in: it says more and counts as full. Else prove '..UptoSaid'. A law counts once. -/
mutual
def uptoBulk {H : Type} : DataW H → Nat
  | .lit (.string bytes) => bytes.length + 1
  | .lit _ => 1
  | .nil => 1
  | .ptr d => uptoBulk d + 1
  | .slice elems spare => uptoBulkAll elems + uptoBulkAll spare + 1
  | .agg parts => uptoBulkAll parts + 1
  | .iface _ d => uptoBulk d + 1
  | .map entries => uptoBulkEntries entries + 1
  | .held _ => 1
def uptoBulkAll {H : Type} : List (DataW H) → Nat
  | [] => 0
  | d :: r => uptoBulk d + uptoBulkAll r
def uptoBulkEntries {H : Type} : List (Lit × DataW H) → Nat
  | [] => 0
  | x :: r => uptoBulkEntry x + uptoBulkEntries r
def uptoBulkEntry {H : Type} : Lit × DataW H → Nat
  | (.string bytes, d) => bytes.length + uptoBulk d + 1
  | (_, d) => uptoBulk d + 1
 end
def uptoSmall : (H : Type) → List (DataW H) → Bool := fun _ ds => decide (uptoBulkAll ds ≤ 1048576)
def OpenSpec.upto (s : _root_.Go.ChangeSpec) : _root_.Go.OpenSpec := { _root_.Go.OpenSpec.ofChange s with cond := some uptoSmall }

/-- 'mimesislaw30.DeadSame', WHERE WHAT IT READS IS OF BULK AT MOST 1048576: true; the input reads as it did. -/
def deadSameUptoRow : OpenClaim := { program := "ytlnbghhhifnbdaa", sum := "e2c62f3c527baeac82eda68f25af4a5c1804ec442ff8ea2d2c2283aa52f75da6", func := "mimesis/mimesislaw30.DeadSame", spec := "deadSame", unfollowed := true, recurses := true, apart := false, narrowed := true }
def DeadSameUptoSaid : Prop := deadSameUptoRow.holds Try.pinned (OpenSpec.upto deadSameSpec)

/-- 'mimesislaw30.DeadDoes', WHERE WHAT IT READS IS OF BULK AT MOST 1048576: true; the input reads as it did. -/
def deadDoesUptoRow : OpenClaim := { program := "ytlnbghhhifnbdaa", sum := "e2c62f3c527baeac82eda68f25af4a5c1804ec442ff8ea2d2c2283aa52f75da6", func := "mimesis/mimesislaw30.DeadDoes", spec := "deadDoes", unfollowed := true, recurses := true, apart := false, narrowed := true }
def DeadDoesUptoSaid : Prop := deadDoesUptoRow.holds Try.pinned (OpenSpec.upto deadDoesSpec)

/-- 'mimesislaw30.DeadAgain', WHERE WHAT IT READS IS OF BULK AT MOST 1048576: true; the input reads as it did. -/
def deadAgainUptoRow : OpenClaim := { program := "ytlnbghhhifnbdaa", sum := "e2c62f3c527baeac82eda68f25af4a5c1804ec442ff8ea2d2c2283aa52f75da6", func := "mimesis/mimesislaw30.DeadAgain", spec := "deadAgain", unfollowed := true, recurses := true, apart := false, narrowed := true }
def DeadAgainUptoSaid : Prop := deadAgainUptoRow.holds Try.pinned (OpenSpec.upto deadAgainSpec)

/-- 'mimesislaw29.NumberDoes', WHERE WHAT IT READS IS OF BULK AT MOST 1048576: true; the input reads as it did. -/
def numberDoesUptoRow : OpenClaim := { program := "ytlnbghhhifnbdaa", sum := "e2c62f3c527baeac82eda68f25af4a5c1804ec442ff8ea2d2c2283aa52f75da6", func := "mimesis/mimesislaw29.NumberDoes", spec := "numberDoes", unfollowed := true, recurses := true, apart := false, narrowed := true }
def NumberDoesUptoSaid : Prop := numberDoesUptoRow.holds Try.pinned (OpenSpec.upto numberDoesSpec)

/-- 'mimesislaw29.NumberSame', WHERE WHAT IT READS IS OF BULK AT MOST 1048576: true; the input reads as it did. -/
def numberSameUptoRow : OpenClaim := { program := "ytlnbghhhifnbdaa", sum := "e2c62f3c527baeac82eda68f25af4a5c1804ec442ff8ea2d2c2283aa52f75da6", func := "mimesis/mimesislaw29.NumberSame", spec := "numberSame", unfollowed := true, recurses := true, apart := false, narrowed := true }
def NumberSameUptoSaid : Prop := numberSameUptoRow.holds Try.pinned (OpenSpec.upto numberSameSpec)

/-- 'mimesislaw29.NumberAgain', WHERE WHAT IT READS IS OF BULK AT MOST 1048576: true; the input reads as it did. -/
def numberAgainUptoRow : OpenClaim := { program := "ytlnbghhhifnbdaa", sum := "e2c62f3c527baeac82eda68f25af4a5c1804ec442ff8ea2d2c2283aa52f75da6", func := "mimesis/mimesislaw29.NumberAgain", spec := "numberAgain", unfollowed := true, recurses := true, apart := false, narrowed := true }
def NumberAgainUptoSaid : Prop := numberAgainUptoRow.holds Try.pinned (OpenSpec.upto numberAgainSpec)

/-- 'mimesislaw31.GuardSame', WHERE WHAT IT READS IS OF BULK AT MOST 1048576: true; the input reads as it did. -/
def guardSameUptoRow : OpenClaim := { program := "ytlnbghhhifnbdaa", sum := "e2c62f3c527baeac82eda68f25af4a5c1804ec442ff8ea2d2c2283aa52f75da6", func := "mimesis/mimesislaw31.GuardSame", spec := "guardSame", unfollowed := true, recurses := true, apart := false, narrowed := true }
def GuardSameUptoSaid : Prop := guardSameUptoRow.holds Try.pinned (OpenSpec.upto guardSameSpec)

/-- 'mimesislaw31.GuardDoes', WHERE WHAT IT READS IS OF BULK AT MOST 1048576: true; the input reads as it did. -/
def guardDoesUptoRow : OpenClaim := { program := "ytlnbghhhifnbdaa", sum := "e2c62f3c527baeac82eda68f25af4a5c1804ec442ff8ea2d2c2283aa52f75da6", func := "mimesis/mimesislaw31.GuardDoes", spec := "guardDoes", unfollowed := true, recurses := true, apart := false, narrowed := true }
def GuardDoesUptoSaid : Prop := guardDoesUptoRow.holds Try.pinned (OpenSpec.upto guardDoesSpec)

end Rows
end Go.Proofs.Ytlnbghhhifnbdaa
