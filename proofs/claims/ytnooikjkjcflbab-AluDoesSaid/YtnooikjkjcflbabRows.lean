/-
  No cell of these rows narrows 'for every input' (looked for: loops, veiled, ifaces, maps, wideKeys, modest, calm, conditions, laid).
  DERIVED. THE GIVEN ROWS OF THIS SEAT. 4 by the template 'for every input the law returns true; each argument reads behind the call as it read before'; 0 by the template 'total and deterministic' (their statements: YtnooikjkjcflbabTotals.lean).
  GIVEN WITH THE SEED: the statements are not yours to turn. If you find one false, say at which input.
  Laid BY PROGRAM, IN A SANDBOX (cutbox-rows.mjs): the forced cells as the released guide's own fill.sh prints them over the translation 42ed188cc2245e20… (all of the seat's roots in one cut). By AI agents, Wed Nov 11 2026. No macro, syntax, notation, axiom, sorry.
-/
import Derived.Test.YtnooikjkjcflbabChecked
import GoSem.Claim
import GoSem.ClaimJoined
import GoSem.ClaimMapViews
import Derived.JoinedTies
import Derived.KernelRfl
namespace Go.Proofs.Ytnooikjkjcflbab
/- THE CELL 'sum', in the pinned program and in every row, IS THE sha256 OF THE DUMP (.gsa) THAT YtnooikjkjcflbabProg.lean LOADS. Nothing in Lean hashes anything: it is a label: what it is worth is what the hold of that sum in a sandbox is worth. -/
noncomputable def Try.pinned : Pinned := { name := "ytnooikjkjcflbab", sum := "42ed188cc2245e20ed35567429825f57448a4eb6c9ffa46376b0159088e8d151", checked := Try.checked }
namespace Rows
def none {H : Type} : Left H := { results := [], args := [] }

/-- 'mimesislaw07.AluDoes': WHATEVER THE INPUT: true; the input reads as it did. -/
def aluDoesSpec : ChangeSpec := { name := "aluDoes", fn := fun _ => fun
  | [d1, d2, d3] => { results := [.lit (.bool true)], args := [d1, d2, d3] }
  | _ => none }
def aluDoesRow : OpenClaim := { program := "ytnooikjkjcflbab", sum := "42ed188cc2245e20ed35567429825f57448a4eb6c9ffa46376b0159088e8d151", func := "mimesis/mimesislaw07.AluDoes", spec := "aluDoes", apart := false }
def AluDoesSaid : Prop := aluDoesRow.holds Try.pinned (OpenSpec.ofChange aluDoesSpec)

/-- ITS FALSE NEIGHBOUR: 'it returns false'. Refute it at one input. -/
def aluDoesWrong : ChangeSpec := { name := "aluDoes", fn := fun _ => fun
  | [d1, d2, d3] => { results := [.lit (.bool false)], args := [d1, d2, d3] }
  | _ => none }
def AluDoesWrongFalsely : Prop := aluDoesRow.holds Try.pinned (OpenSpec.ofChange aluDoesWrong)

/-- 'mimesislaw07.AluTakes': WHATEVER THE INPUT: true; the input reads as it did. -/
def aluTakesSpec : ChangeSpec := { name := "aluTakes", fn := fun _ => fun
  | [d1, d2, d3] => { results := [.lit (.bool true)], args := [d1, d2, d3] }
  | _ => none }
def aluTakesRow : OpenClaim := { program := "ytnooikjkjcflbab", sum := "42ed188cc2245e20ed35567429825f57448a4eb6c9ffa46376b0159088e8d151", func := "mimesis/mimesislaw07.AluTakes", spec := "aluTakes", apart := false }
def AluTakesSaid : Prop := aluTakesRow.holds Try.pinned (OpenSpec.ofChange aluTakesSpec)

/-- ITS FALSE NEIGHBOUR: 'it returns false'. Refute it at one input. -/
def aluTakesWrong : ChangeSpec := { name := "aluTakes", fn := fun _ => fun
  | [d1, d2, d3] => { results := [.lit (.bool false)], args := [d1, d2, d3] }
  | _ => none }
def AluTakesWrongFalsely : Prop := aluTakesRow.holds Try.pinned (OpenSpec.ofChange aluTakesWrong)

/-- 'mimesislaw07.AluPlain': WHATEVER THE INPUT: true; the input reads as it did. -/
def aluPlainSpec : ChangeSpec := { name := "aluPlain", fn := fun _ => fun
  | [d1, d2, d3] => { results := [.lit (.bool true)], args := [d1, d2, d3] }
  | _ => none }
def aluPlainRow : OpenClaim := { program := "ytnooikjkjcflbab", sum := "42ed188cc2245e20ed35567429825f57448a4eb6c9ffa46376b0159088e8d151", func := "mimesis/mimesislaw07.AluPlain", spec := "aluPlain", apart := false }
def AluPlainSaid : Prop := aluPlainRow.holds Try.pinned (OpenSpec.ofChange aluPlainSpec)

/-- ITS FALSE NEIGHBOUR: 'it returns false'. Refute it at one input. -/
def aluPlainWrong : ChangeSpec := { name := "aluPlain", fn := fun _ => fun
  | [d1, d2, d3] => { results := [.lit (.bool false)], args := [d1, d2, d3] }
  | _ => none }
def AluPlainWrongFalsely : Prop := aluPlainRow.holds Try.pinned (OpenSpec.ofChange aluPlainWrong)

/-- 'mimesislaw07.AluUndoes': WHATEVER THE INPUT: true; the input reads as it did. -/
def aluUndoesSpec : ChangeSpec := { name := "aluUndoes", fn := fun _ => fun
  | [d1, d2] => { results := [.lit (.bool true)], args := [d1, d2] }
  | _ => none }
def aluUndoesRow : OpenClaim := { program := "ytnooikjkjcflbab", sum := "42ed188cc2245e20ed35567429825f57448a4eb6c9ffa46376b0159088e8d151", func := "mimesis/mimesislaw07.AluUndoes", spec := "aluUndoes", apart := false }
def AluUndoesSaid : Prop := aluUndoesRow.holds Try.pinned (OpenSpec.ofChange aluUndoesSpec)

/-- ITS FALSE NEIGHBOUR: 'it returns false'. Refute it at one input. -/
def aluUndoesWrong : ChangeSpec := { name := "aluUndoes", fn := fun _ => fun
  | [d1, d2] => { results := [.lit (.bool false)], args := [d1, d2] }
  | _ => none }
def AluUndoesWrongFalsely : Prop := aluUndoesRow.holds Try.pinned (OpenSpec.ofChange aluUndoesWrong)

/- THE SECOND FORM. 'bulk': how many values and letters a reading holds, each counted each time it is reached (what is shared counts as often as it is met; a slice's spare places count too). A statement '..UptoSaid' is the law's where the arguments, and the package variables that the reading takes, are together of bulk at most 1048576: NARROWER than '..Said'. Prove '..Said' where nothing that the law and all that it calls make is longer than what came in: it says more and counts as full. Else prove '..UptoSaid'. A law counts once. -/
mutual
def uptoBulk {H : Type} : DataW H → Nat
  | .lit (.string bytes) => bytes.length + 1
  | .lit _ => 1
  | .nil => 1
  | .ptr d => uptoBulk d + 1
  | .slice elems spare => uptoBulkAll elems + uptoBulkAll spare + 1
  | .agg parts => uptoBulkAll parts + 1
  | .iface _ d => uptoBulk d + 1
  | .map entries => uptoBulkEntries entries + 1
  | .held _ => 1
def uptoBulkAll {H : Type} : List (DataW H) → Nat
  | [] => 0
  | d :: r => uptoBulk d + uptoBulkAll r
def uptoBulkEntries {H : Type} : List (Lit × DataW H) → Nat
  | [] => 0
  | x :: r => uptoBulkEntry x + uptoBulkEntries r
def uptoBulkEntry {H : Type} : Lit × DataW H → Nat
  | (.string bytes, d) => bytes.length + uptoBulk d + 1
  | (_, d) => uptoBulk d + 1
 end
def uptoSmall : (H : Type) → List (DataW H) → Bool := fun _ ds => decide (uptoBulkAll ds ≤ 1048576)
def OpenSpec.upto (s : _root_.Go.ChangeSpec) : _root_.Go.OpenSpec := { _root_.Go.OpenSpec.ofChange s with cond := some uptoSmall }

/-- 'mimesislaw07.AluDoes', WHERE WHAT IT READS IS OF BULK AT MOST 1048576: true; the input reads as it did. -/
def aluDoesUptoRow : OpenClaim := { program := "ytnooikjkjcflbab", sum := "42ed188cc2245e20ed35567429825f57448a4eb6c9ffa46376b0159088e8d151", func := "mimesis/mimesislaw07.AluDoes", spec := "aluDoes", apart := false, narrowed := true }
def AluDoesUptoSaid : Prop := aluDoesUptoRow.holds Try.pinned (OpenSpec.upto aluDoesSpec)

/-- 'mimesislaw07.AluTakes', WHERE WHAT IT READS IS OF BULK AT MOST 1048576: true; the input reads as it did. -/
def aluTakesUptoRow : OpenClaim := { program := "ytnooikjkjcflbab", sum := "42ed188cc2245e20ed35567429825f57448a4eb6c9ffa46376b0159088e8d151", func := "mimesis/mimesislaw07.AluTakes", spec := "aluTakes", apart := false, narrowed := true }
def AluTakesUptoSaid : Prop := aluTakesUptoRow.holds Try.pinned (OpenSpec.upto aluTakesSpec)

/-- 'mimesislaw07.AluPlain', WHERE WHAT IT READS IS OF BULK AT MOST 1048576: true; the input reads as it did. -/
def aluPlainUptoRow : OpenClaim := { program := "ytnooikjkjcflbab", sum := "42ed188cc2245e20ed35567429825f57448a4eb6c9ffa46376b0159088e8d151", func := "mimesis/mimesislaw07.AluPlain", spec := "aluPlain", apart := false, narrowed := true }
def AluPlainUptoSaid : Prop := aluPlainUptoRow.holds Try.pinned (OpenSpec.upto aluPlainSpec)

/-- 'mimesislaw07.AluUndoes', WHERE WHAT IT READS IS OF BULK AT MOST 1048576: true; the input reads as it did. -/
def aluUndoesUptoRow : OpenClaim := { program := "ytnooikjkjcflbab", sum := "42ed188cc2245e20ed35567429825f57448a4eb6c9ffa46376b0159088e8d151", func := "mimesis/mimesislaw07.AluUndoes", spec := "aluUndoes", apart := false, narrowed := true }
def AluUndoesUptoSaid : Prop := aluUndoesUptoRow.holds Try.pinned (OpenSpec.upto aluUndoesSpec)

end Rows
end Go.Proofs.Ytnooikjkjcflbab
