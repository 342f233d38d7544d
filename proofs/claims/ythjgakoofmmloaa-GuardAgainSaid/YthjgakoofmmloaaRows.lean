/-
  No cell of these rows narrows 'for every input' (looked for: loops, veiled, ifaces, maps, wideKeys, modest, calm, conditions, laid).
  DERIVED. THE GIVEN ROWS OF THIS SEAT. 12 by the template 'for every input the law returns true; each argument reads behind the call as it read before'; 0 by the template 'total and deterministic' (their statements: YthjgakoofmmloaaTotals.lean).
  GIVEN WITH THE SEED: the statements are not yours to turn. If you find one false, say at which input.
  Laid BY PROGRAM, IN A SANDBOX (cutbox-rows.mjs): the forced cells as the released guide's own fill.sh prints them over the translation 3bd5525d62fd8c76… (all of the seat's roots in one cut). By AI agents, Wed Nov 11 2026. No macro, syntax, notation, axiom, sorry.
-/
import Derived.Test.YthjgakoofmmloaaChecked
import GoSem.Claim
import GoSem.ClaimJoined
import GoSem.ClaimMapViews
import Derived.JoinedTies
import Derived.KernelRfl
namespace Go.Proofs.Ythjgakoofmmloaa
/- THE CELL 'sum', in the pinned program and in every row, IS THE sha256 OF THE DUMP (.gsa) THAT YthjgakoofmmloaaProg.lean LOADS. Nothing in Lean hashes anything: it is a label: what it is worth is what the hold of that sum in a sandbox is worth. -/
noncomputable def Try.pinned : Pinned := { name := "ythjgakoofmmloaa", sum := "3bd5525d62fd8c7661fdb49fea3e1986fa3de32d399693dce4c743aa4e0547df", checked := Try.checked }
namespace Rows
def none {H : Type} : Left H := { results := [], args := [] }

/-- 'mimesislaw30.DeadSame': WHATEVER THE INPUT: true; the input reads as it did. -/
def deadSameSpec : ChangeSpec := { name := "deadSame", fn := fun _ => fun
  | [d1, d2] => { results := [.lit (.bool true)], args := [d1, d2] }
  | _ => none }
def deadSameRow : OpenClaim := { program := "ythjgakoofmmloaa", sum := "3bd5525d62fd8c7661fdb49fea3e1986fa3de32d399693dce4c743aa4e0547df", func := "mimesis/mimesislaw30.DeadSame", spec := "deadSame", unfollowed := true, recurses := true, apart := false }
def DeadSameSaid : Prop := deadSameRow.holds Try.pinned (OpenSpec.ofChange deadSameSpec)

/-- ITS FALSE NEIGHBOUR: 'it returns false'. Refute it at one input. -/
def deadSameWrong : ChangeSpec := { name := "deadSame", fn := fun _ => fun
  | [d1, d2] => { results := [.lit (.bool false)], args := [d1, d2] }
  | _ => none }
def DeadSameWrongFalsely : Prop := deadSameRow.holds Try.pinned (OpenSpec.ofChange deadSameWrong)

/-- 'mimesislaw30.DeadDoes': WHATEVER THE INPUT: true; the input reads as it did. -/
def deadDoesSpec : ChangeSpec := { name := "deadDoes", fn := fun _ => fun
  | [d] => { results := [.lit (.bool true)], args := [d] }
  | _ => none }
def deadDoesRow : OpenClaim := { program := "ythjgakoofmmloaa", sum := "3bd5525d62fd8c7661fdb49fea3e1986fa3de32d399693dce4c743aa4e0547df", func := "mimesis/mimesislaw30.DeadDoes", spec := "deadDoes", unfollowed := true, recurses := true, apart := false }
def DeadDoesSaid : Prop := deadDoesRow.holds Try.pinned (OpenSpec.ofChange deadDoesSpec)

/-- ITS FALSE NEIGHBOUR: 'it returns false'. Refute it at one input. -/
def deadDoesWrong : ChangeSpec := { name := "deadDoes", fn := fun _ => fun
  | [d] => { results := [.lit (.bool false)], args := [d] }
  | _ => none }
def DeadDoesWrongFalsely : Prop := deadDoesRow.holds Try.pinned (OpenSpec.ofChange deadDoesWrong)

/-- 'mimesislaw30.DeadAgain': WHATEVER THE INPUT: true; the input reads as it did. -/
def deadAgainSpec : ChangeSpec := { name := "deadAgain", fn := fun _ => fun
  | [d] => { results := [.lit (.bool true)], args := [d] }
  | _ => none }
def deadAgainRow : OpenClaim := { program := "ythjgakoofmmloaa", sum := "3bd5525d62fd8c7661fdb49fea3e1986fa3de32d399693dce4c743aa4e0547df", func := "mimesis/mimesislaw30.DeadAgain", spec := "deadAgain", unfollowed := true, recurses := true, apart := false }
def DeadAgainSaid : Prop := deadAgainRow.holds Try.pinned (OpenSpec.ofChange deadAgainSpec)

/-- ITS FALSE NEIGHBOUR: 'it returns false'. Refute it at one input. -/
def deadAgainWrong : ChangeSpec := { name := "deadAgain", fn := fun _ => fun
  | [d] => { results := [.lit (.bool false)], args := [d] }
  | _ => none }
def DeadAgainWrongFalsely : Prop := deadAgainRow.holds Try.pinned (OpenSpec.ofChange deadAgainWrong)

/-- 'mimesislaw29.NumberDoes': WHATEVER THE INPUT: true; the input reads as it did. -/
def numberDoesSpec : ChangeSpec := { name := "numberDoes", fn := fun _ => fun
  | [d] => { results := [.lit (.bool true)], args := [d] }
  | _ => none }
def numberDoesRow : OpenClaim := { program := "ythjgakoofmmloaa", sum := "3bd5525d62fd8c7661fdb49fea3e1986fa3de32d399693dce4c743aa4e0547df", func := "mimesis/mimesislaw29.NumberDoes", spec := "numberDoes", unfollowed := true, recurses := true, apart := false }
def NumberDoesSaid : Prop := numberDoesRow.holds Try.pinned (OpenSpec.ofChange numberDoesSpec)

/-- ITS FALSE NEIGHBOUR: 'it returns false'. Refute it at one input. -/
def numberDoesWrong : ChangeSpec := { name := "numberDoes", fn := fun _ => fun
  | [d] => { results := [.lit (.bool false)], args := [d] }
  | _ => none }
def NumberDoesWrongFalsely : Prop := numberDoesRow.holds Try.pinned (OpenSpec.ofChange numberDoesWrong)

/-- 'mimesislaw29.NumberSame': WHATEVER THE INPUT: true; the input reads as it did. -/
def numberSameSpec : ChangeSpec := { name := "numberSame", fn := fun _ => fun
  | [d1, d2] => { results := [.lit (.bool true)], args := [d1, d2] }
  | _ => none }
def numberSameRow : OpenClaim := { program := "ythjgakoofmmloaa", sum := "3bd5525d62fd8c7661fdb49fea3e1986fa3de32d399693dce4c743aa4e0547df", func := "mimesis/mimesislaw29.NumberSame", spec := "numberSame", unfollowed := true, recurses := true, apart := false }
def NumberSameSaid : Prop := numberSameRow.holds Try.pinned (OpenSpec.ofChange numberSameSpec)

/-- ITS FALSE NEIGHBOUR: 'it returns false'. Refute it at one input. -/
def numberSameWrong : ChangeSpec := { name := "numberSame", fn := fun _ => fun
  | [d1, d2] => { results := [.lit (.bool false)], args := [d1, d2] }
  | _ => none }
def NumberSameWrongFalsely : Prop := numberSameRow.holds Try.pinned (OpenSpec.ofChange numberSameWrong)

/-- 'mimesislaw31.GuardSame': WHATEVER THE INPUT: true; the input reads as it did. -/
def guardSameSpec : ChangeSpec := { name := "guardSame", fn := fun _ => fun
  | [d1, d2] => { results := [.lit (.bool true)], args := [d1, d2] }
  | _ => none }
def guardSameRow : OpenClaim := { program := "ythjgakoofmmloaa", sum := "3bd5525d62fd8c7661fdb49fea3e1986fa3de32d399693dce4c743aa4e0547df", func := "mimesis/mimesislaw31.GuardSame", spec := "guardSame", unfollowed := true, recurses := true, apart := false }
def GuardSameSaid : Prop := guardSameRow.holds Try.pinned (OpenSpec.ofChange guardSameSpec)

/-- ITS FALSE NEIGHBOUR: 'it returns false'. Refute it at one input. -/
def guardSameWrong : ChangeSpec := { name := "guardSame", fn := fun _ => fun
  | [d1, d2] => { results := [.lit (.bool false)], args := [d1, d2] }
  | _ => none }
def GuardSameWrongFalsely : Prop := guardSameRow.holds Try.pinned (OpenSpec.ofChange guardSameWrong)

/-- 'mimesislaw31.GuardOthers': WHATEVER THE INPUT: true; the input reads as it did. -/
def guardOthersSpec : ChangeSpec := { name := "guardOthers", fn := fun _ => fun
  | [d1, d2, d3] => { results := [.lit (.bool true)], args := [d1, d2, d3] }
  | _ => none }
def guardOthersRow : OpenClaim := { program := "ythjgakoofmmloaa", sum := "3bd5525d62fd8c7661fdb49fea3e1986fa3de32d399693dce4c743aa4e0547df", func := "mimesis/mimesislaw31.GuardOthers", spec := "guardOthers", unfollowed := true, recurses := true, apart := false }
def GuardOthersSaid : Prop := guardOthersRow.holds Try.pinned (OpenSpec.ofChange guardOthersSpec)

/-- ITS FALSE NEIGHBOUR: 'it returns false'. Refute it at one input. -/
def guardOthersWrong : ChangeSpec := { name := "guardOthers", fn := fun _ => fun
  | [d1, d2, d3] => { results := [.lit (.bool false)], args := [d1, d2, d3] }
  | _ => none }
def GuardOthersWrongFalsely : Prop := guardOthersRow.holds Try.pinned (OpenSpec.ofChange guardOthersWrong)

/-- 'mimesislaw31.GuardDoes': WHATEVER THE INPUT: true; the input reads as it did. -/
def guardDoesSpec : ChangeSpec := { name := "guardDoes", fn := fun _ => fun
  | [d] => { results := [.lit (.bool true)], args := [d] }
  | _ => none }
def guardDoesRow : OpenClaim := { program := "ythjgakoofmmloaa", sum := "3bd5525d62fd8c7661fdb49fea3e1986fa3de32d399693dce4c743aa4e0547df", func := "mimesis/mimesislaw31.GuardDoes", spec := "guardDoes", unfollowed := true, recurses := true, apart := false }
def GuardDoesSaid : Prop := guardDoesRow.holds Try.pinned (OpenSpec.ofChange guardDoesSpec)

/-- ITS FALSE NEIGHBOUR: 'it returns false'. Refute it at one input. -/
def guardDoesWrong : ChangeSpec := { name := "guardDoes", fn := fun _ => fun
  | [d] => { results := [.lit (.bool false)], args := [d] }
  | _ => none }
def GuardDoesWrongFalsely : Prop := guardDoesRow.holds Try.pinned (OpenSpec.ofChange guardDoesWrong)

/-- 'mimesislaw31.GuardAgain': WHATEVER THE INPUT: true; the input reads as it did. -/
def guardAgainSpec : ChangeSpec := { name := "guardAgain", fn := fun _ => fun
  | [d] => { results := [.lit (.bool true)], args := [d] }
  | _ => none }
def guardAgainRow : OpenClaim := { program := "ythjgakoofmmloaa", sum := "3bd5525d62fd8c7661fdb49fea3e1986fa3de32d399693dce4c743aa4e0547df", func := "mimesis/mimesislaw31.GuardAgain", spec := "guardAgain", unfollowed := true, recurses := true, apart := false }
def GuardAgainSaid : Prop := guardAgainRow.holds Try.pinned (OpenSpec.ofChange guardAgainSpec)

/-- ITS FALSE NEIGHBOUR: 'it returns false'. Refute it at one input. -/
def guardAgainWrong : ChangeSpec := { name := "guardAgain", fn := fun _ => fun
  | [d] => { results := [.lit (.bool false)], args := [d] }
  | _ => none }
def GuardAgainWrongFalsely : Prop := guardAgainRow.holds Try.pinned (OpenSpec.ofChange guardAgainWrong)

/-- 'mimesislaw28.FoldDoes': WHATEVER THE INPUT: true; the input reads as it did. -/
def foldDoesSpec : ChangeSpec := { name := "foldDoes", fn := fun _ => fun
  | [d] => { results := [.lit (.bool true)], args := [d] }
  | _ => none }
def foldDoesRow : OpenClaim := { program := "ythjgakoofmmloaa", sum := "3bd5525d62fd8c7661fdb49fea3e1986fa3de32d399693dce4c743aa4e0547df", func := "mimesis/mimesislaw28.FoldDoes", spec := "foldDoes", unfollowed := true, recurses := true, apart := false }
def FoldDoesSaid : Prop := foldDoesRow.holds Try.pinned (OpenSpec.ofChange foldDoesSpec)

/-- ITS FALSE NEIGHBOUR: 'it returns false'. Refute it at one input. -/
def foldDoesWrong : ChangeSpec := { name := "foldDoes", fn := fun _ => fun
  | [d] => { results := [.lit (.bool false)], args := [d] }
  | _ => none }
def FoldDoesWrongFalsely : Prop := foldDoesRow.holds Try.pinned (OpenSpec.ofChange foldDoesWrong)

/-- 'mimesislaw28.FoldSame': WHATEVER THE INPUT: true; the input reads as it did. -/
def foldSameSpec : ChangeSpec := { name := "foldSame", fn := fun _ => fun
  | [d1, d2] => { results := [.lit (.bool true)], args := [d1, d2] }
  | _ => none }
def foldSameRow : OpenClaim := { program := "ythjgakoofmmloaa", sum := "3bd5525d62fd8c7661fdb49fea3e1986fa3de32d399693dce4c743aa4e0547df", func := "mimesis/mimesislaw28.FoldSame", spec := "foldSame", unfollowed := true, recurses := true, apart := false }
def FoldSameSaid : Prop := foldSameRow.holds Try.pinned (OpenSpec.ofChange foldSameSpec)

/-- ITS FALSE NEIGHBOUR: 'it returns false'. Refute it at one input. -/
def foldSameWrong : ChangeSpec := { name := "foldSame", fn := fun _ => fun
  | [d1, d2] => { results := [.lit (.bool false)], args := [d1, d2] }
  | _ => none }
def FoldSameWrongFalsely : Prop := foldSameRow.holds Try.pinned (OpenSpec.ofChange foldSameWrong)

/-- 'mimesislaw28.FoldAgain': WHATEVER THE INPUT: true; the input reads as it did. -/
def foldAgainSpec : ChangeSpec := { name := "foldAgain", fn := fun _ => fun
  | [d] => { results := [.lit (.bool true)], args := [d] }
  | _ => none }
def foldAgainRow : OpenClaim := { program := "ythjgakoofmmloaa", sum := "3bd5525d62fd8c7661fdb49fea3e1986fa3de32d399693dce4c743aa4e0547df", func := "mimesis/mimesislaw28.FoldAgain", spec := "foldAgain", unfollowed := true, recurses := true, apart := false }
def FoldAgainSaid : Prop := foldAgainRow.holds Try.pinned (OpenSpec.ofChange foldAgainSpec)

/-- ITS FALSE NEIGHBOUR: 'it returns false'. Refute it at one input. -/
def foldAgainWrong : ChangeSpec := { name := "foldAgain", fn := fun _ => fun
  | [d] => { results := [.lit (.bool false)], args := [d] }
  | _ => none }
def FoldAgainWrongFalsely : Prop := foldAgainRow.holds Try.pinned (OpenSpec.ofChange foldAgainWrong)

/- THE SECOND FORM. 'bulk': how many values and letters a reading holds, each counted each time it is reached (what is shared counts as often as it is met; a slice's spare places count too). A statement '..UptoSaid' is the law's where the arguments, and the package variables that the reading takes, are together of bulk at most 1048576: NARROWER than '..Said'. Prove '..Said' where nothing that the law and all that it calls make is longer than what came in: it says more and counts as full. Else prove '..UptoSaid'. A law counts once. -/
mutual
def uptoBulk {H : Type} : DataW H → Nat
  | .lit (.string bytes) => bytes.length + 1
  | .lit _ => 1
  | .nil => 1
  | .ptr d => uptoBulk d + 1
  | .slice elems spare => uptoBulkAll elems + uptoBulkAll spare + 1
  | .agg parts => uptoBulkAll parts + 1
  | .iface _ d => uptoBulk d + 1
  | .map entries => uptoBulkEntries entries + 1
  | .held _ => 1
def uptoBulkAll {H : Type} : List (DataW H) → Nat
  | [] => 0
  | d :: r => uptoBulk d + uptoBulkAll r
def uptoBulkEntries {H : Type} : List (Lit × DataW H) → Nat
  | [] => 0
  | x :: r => uptoBulkEntry x + uptoBulkEntries r
def uptoBulkEntry {H : Type} : Lit × DataW H → Nat
  | (.string bytes, d) => bytes.length + uptoBulk d + 1
  | (_, d) => uptoBulk d + 1
 end
def uptoSmall : (H : Type) → List (DataW H) → Bool := fun _ ds => decide (uptoBulkAll ds ≤ 1048576)
def OpenSpec.upto (s : _root_.Go.ChangeSpec) : _root_.Go.OpenSpec := { _root_.Go.OpenSpec.ofChange s with cond := some uptoSmall }

/-- 'mimesislaw30.DeadSame', WHERE WHAT IT READS IS OF BULK AT MOST 1048576: true; the input reads as it did. -/
def deadSameUptoRow : OpenClaim := { program := "ythjgakoofmmloaa", sum := "3bd5525d62fd8c7661fdb49fea3e1986fa3de32d399693dce4c743aa4e0547df", func := "mimesis/mimesislaw30.DeadSame", spec := "deadSame", unfollowed := true, recurses := true, apart := false, narrowed := true }
def DeadSameUptoSaid : Prop := deadSameUptoRow.holds Try.pinned (OpenSpec.upto deadSameSpec)

/-- 'mimesislaw30.DeadDoes', WHERE WHAT IT READS IS OF BULK AT MOST 1048576: true; the input reads as it did. -/
def deadDoesUptoRow : OpenClaim := { program := "ythjgakoofmmloaa", sum := "3bd5525d62fd8c7661fdb49fea3e1986fa3de32d399693dce4c743aa4e0547df", func := "mimesis/mimesislaw30.DeadDoes", spec := "deadDoes", unfollowed := true, recurses := true, apart := false, narrowed := true }
def DeadDoesUptoSaid : Prop := deadDoesUptoRow.holds Try.pinned (OpenSpec.upto deadDoesSpec)

/-- 'mimesislaw30.DeadAgain', WHERE WHAT IT READS IS OF BULK AT MOST 1048576: true; the input reads as it did. -/
def deadAgainUptoRow : OpenClaim := { program := "ythjgakoofmmloaa", sum := "3bd5525d62fd8c7661fdb49fea3e1986fa3de32d399693dce4c743aa4e0547df", func := "mimesis/mimesislaw30.DeadAgain", spec := "deadAgain", unfollowed := true, recurses := true, apart := false, narrowed := true }
def DeadAgainUptoSaid : Prop := deadAgainUptoRow.holds Try.pinned (OpenSpec.upto deadAgainSpec)

/-- 'mimesislaw29.NumberDoes', WHERE WHAT IT READS IS OF BULK AT MOST 1048576: true; the input reads as it did. -/
def numberDoesUptoRow : OpenClaim := { program := "ythjgakoofmmloaa", sum := "3bd5525d62fd8c7661fdb49fea3e1986fa3de32d399693dce4c743aa4e0547df", func := "mimesis/mimesislaw29.NumberDoes", spec := "numberDoes", unfollowed := true, recurses := true, apart := false, narrowed := true }
def NumberDoesUptoSaid : Prop := numberDoesUptoRow.holds Try.pinned (OpenSpec.upto numberDoesSpec)

/-- 'mimesislaw29.NumberSame', WHERE WHAT IT READS IS OF BULK AT MOST 1048576: true; the input reads as it did. -/
def numberSameUptoRow : OpenClaim := { program := "ythjgakoofmmloaa", sum := "3bd5525d62fd8c7661fdb49fea3e1986fa3de32d399693dce4c743aa4e0547df", func := "mimesis/mimesislaw29.NumberSame", spec := "numberSame", unfollowed := true, recurses := true, apart := false, narrowed := true }
def NumberSameUptoSaid : Prop := numberSameUptoRow.holds Try.pinned (OpenSpec.upto numberSameSpec)

/-- 'mimesislaw31.GuardSame', WHERE WHAT IT READS IS OF BULK AT MOST 1048576: true; the input reads as it did. -/
def guardSameUptoRow : OpenClaim := { program := "ythjgakoofmmloaa", sum := "3bd5525d62fd8c7661fdb49fea3e1986fa3de32d399693dce4c743aa4e0547df", func := "mimesis/mimesislaw31.GuardSame", spec := "guardSame", unfollowed := true, recurses := true, apart := false, narrowed := true }
def GuardSameUptoSaid : Prop := guardSameUptoRow.holds Try.pinned (OpenSpec.upto guardSameSpec)

/-- 'mimesislaw31.GuardOthers', WHERE WHAT IT READS IS OF BULK AT MOST 1048576: true; the input reads as it did. -/
def guardOthersUptoRow : OpenClaim := { program := "ythjgakoofmmloaa", sum := "3bd5525d62fd8c7661fdb49fea3e1986fa3de32d399693dce4c743aa4e0547df", func := "mimesis/mimesislaw31.GuardOthers", spec := "guardOthers", unfollowed := true, recurses := true, apart := false, narrowed := true }
def GuardOthersUptoSaid : Prop := guardOthersUptoRow.holds Try.pinned (OpenSpec.upto guardOthersSpec)

/-- 'mimesislaw31.GuardDoes', WHERE WHAT IT READS IS OF BULK AT MOST 1048576: true; the input reads as it did. -/
def guardDoesUptoRow : OpenClaim := { program := "ythjgakoofmmloaa", sum := "3bd5525d62fd8c7661fdb49fea3e1986fa3de32d399693dce4c743aa4e0547df", func := "mimesis/mimesislaw31.GuardDoes", spec := "guardDoes", unfollowed := true, recurses := true, apart := false, narrowed := true }
def GuardDoesUptoSaid : Prop := guardDoesUptoRow.holds Try.pinned (OpenSpec.upto guardDoesSpec)

/-- 'mimesislaw31.GuardAgain', WHERE WHAT IT READS IS OF BULK AT MOST 1048576: true; the input reads as it did. -/
def guardAgainUptoRow : OpenClaim := { program := "ythjgakoofmmloaa", sum := "3bd5525d62fd8c7661fdb49fea3e1986fa3de32d399693dce4c743aa4e0547df", func := "mimesis/mimesislaw31.GuardAgain", spec := "guardAgain", unfollowed := true, recurses := true, apart := false, narrowed := true }
def GuardAgainUptoSaid : Prop := guardAgainUptoRow.holds Try.pinned (OpenSpec.upto guardAgainSpec)

/-- 'mimesislaw28.FoldDoes', WHERE WHAT IT READS IS OF BULK AT MOST 1048576: true; the input reads as it did. -/
def foldDoesUptoRow : OpenClaim := { program := "ythjgakoofmmloaa", sum := "3bd5525d62fd8c7661fdb49fea3e1986fa3de32d399693dce4c743aa4e0547df", func := "mimesis/mimesislaw28.FoldDoes", spec := "foldDoes", unfollowed := true, recurses := true, apart := false, narrowed := true }
def FoldDoesUptoSaid : Prop := foldDoesUptoRow.holds Try.pinned (OpenSpec.upto foldDoesSpec)

/-- 'mimesislaw28.FoldSame', WHERE WHAT IT READS IS OF BULK AT MOST 1048576: true; the input reads as it did. -/
def foldSameUptoRow : OpenClaim := { program := "ythjgakoofmmloaa", sum := "3bd5525d62fd8c7661fdb49fea3e1986fa3de32d399693dce4c743aa4e0547df", func := "mimesis/mimesislaw28.FoldSame", spec := "foldSame", unfollowed := true, recurses := true, apart := false, narrowed := true }
def FoldSameUptoSaid : Prop := foldSameUptoRow.holds Try.pinned (OpenSpec.upto foldSameSpec)

/-- 'mimesislaw28.FoldAgain', WHERE WHAT IT READS IS OF BULK AT MOST 1048576: true; the input reads as it did. -/
def foldAgainUptoRow : OpenClaim := { program := "ythjgakoofmmloaa", sum := "3bd5525d62fd8c7661fdb49fea3e1986fa3de32d399693dce4c743aa4e0547df", func := "mimesis/mimesislaw28.FoldAgain", spec := "foldAgain", unfollowed := true, recurses := true, apart := false, narrowed := true }
def FoldAgainUptoSaid : Prop := foldAgainUptoRow.holds Try.pinned (OpenSpec.upto foldAgainSpec)

end Rows
end Go.Proofs.Ythjgakoofmmloaa
