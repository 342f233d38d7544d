/-
  NARROWER THAN 'FOR EVERY INPUT', by the rows' own cells (each row's printed sentence says how): IrChecks: laid · IrTexts: laid · IrUses: laid · IrClones: laid.
  DERIVED. THE GIVEN ROWS OF THIS SEAT. 4 by the template 'for every input the law returns true; each argument reads behind the call as it read before'; 0 by the template 'total and deterministic' (their statements: YtlnbghhhifnbdaaDoorTotals.lean).
  GIVEN WITH THE SEED: the statements are not yours to turn. If you find one false, say at which input.
  Laid BY PROGRAM, IN A SANDBOX (cutbox-rows.mjs): the forced cells as the released guide's own fill.sh prints them over the translation ac8792d2287f5b4f… (all of the seat's roots in one cut). By AI agents, Wed Nov 11 2026. No macro, syntax, notation, axiom, sorry.
-/
import Derived.Test.YtlnbghhhifnbdaaDoorChecked
import GoSem.Claim
import GoSem.ClaimJoined
import GoSem.ClaimMapViews
import Derived.JoinedTies
import Derived.KernelRfl
namespace Go.Proofs.YtlnbghhhifnbdaaDoor
/- THE CELL 'sum', in the pinned program and in every row, IS THE sha256 OF THE DUMP (.gsa) THAT YtlnbghhhifnbdaaDoorProg.lean LOADS. Nothing in Lean hashes anything: it is a label: what it is worth is what the hold of that sum in a sandbox is worth. -/
noncomputable def Tryd.pinned : Pinned := { name := "ytlnbghhhifnbdaadoor", sum := "ac8792d2287f5b4fc947c3e5dddaac99f17c8517d918bc984aefc7ad39b391f1", checked := Tryd.checked }
namespace Rows
def none {H : Type} : Left H := { results := [], args := [] }

/- WHAT THE LISTED PACKAGE-LEVEL VARIABLES READ AS WHEN THE CALL BEGINS. Each datum BY PROGRAM (the guide's laid-datum.mjs) off the statement by which the dump's own 'gosem.cut.vars' lays the variable. In a bare row this is a premise. The card (YtlnbghhhifnbdaaDoorCards.lean) ties it to the program's text. -/
def laid_mimesis_inst_names {H : Type} : DataW H := .agg [.lit (.string [105, 108, 108, 101, 103, 97, 108]), .lit (.string [108, 117, 105]), .lit (.string [97, 117, 105, 112, 99]), .lit (.string [106, 97, 108]), .lit (.string [106, 97, 108, 114]), .lit (.string [98, 101, 113]), .lit (.string [98, 110, 101]), .lit (.string [98, 108, 116]), .lit (.string [98, 103, 101]), .lit (.string [98, 108, 116, 117]), .lit (.string [98, 103, 101, 117]), .lit (.string [108, 98]), .lit (.string [108, 104]), .lit (.string [108, 119]), .lit (.string [108, 98, 117]), .lit (.string [108, 104, 117]), .lit (.string [115, 98]), .lit (.string [115, 104]), .lit (.string [115, 119]), .lit (.string [97, 100, 100, 105]), .lit (.string [115, 108, 116, 105]), .lit (.string [115, 108, 116, 105, 117]), .lit (.string [120, 111, 114, 105]), .lit (.string [111, 114, 105]), .lit (.string [97, 110, 100, 105]), .lit (.string [115, 108, 108, 105]), .lit (.string [115, 114, 108, 105]), .lit (.string [115, 114, 97, 105]), .lit (.string [97, 100, 100]), .lit (.string [115, 117, 98]), .lit (.string [115, 108, 108]), .lit (.string [115, 108, 116]), .lit (.string [115, 108, 116, 117]), .lit (.string [120, 111, 114]), .lit (.string [115, 114, 108]), .lit (.string [115, 114, 97]), .lit (.string [111, 114]), .lit (.string [97, 110, 100]), .lit (.string [102, 101, 110, 99, 101]), .lit (.string [102, 101, 110, 99, 101, 46, 105]), .lit (.string [101, 99, 97, 108, 108]), .lit (.string [101, 98, 114, 101, 97, 107]), .lit (.string [99, 115, 114, 114, 119]), .lit (.string [99, 115, 114, 114, 115]), .lit (.string [99, 115, 114, 114, 99]), .lit (.string [99, 115, 114, 114, 119, 105]), .lit (.string [99, 115, 114, 114, 115, 105]), .lit (.string [99, 115, 114, 114, 99, 105]), .lit (.string [109, 114, 101, 116]), .lit (.string [119, 102, 105]), .lit (.string [109, 117, 108]), .lit (.string [109, 117, 108, 104]), .lit (.string [109, 117, 108, 104, 115, 117]), .lit (.string [109, 117, 108, 104, 117]), .lit (.string [100, 105, 118]), .lit (.string [100, 105, 118, 117]), .lit (.string [114, 101, 109]), .lit (.string [114, 101, 109, 117])]

/-- 'mimesislaw23.IrChecks': WHATEVER THE INPUT: true; the input reads as it did. -/
def irChecksSpec : ChangeSpec := { name := "irChecks", fn := fun _ => fun
  | [d] => { results := [.lit (.bool true)], args := [d] }
  | _ => none }
def irChecksRow : OpenClaim := { program := "ytlnbghhhifnbdaadoor", sum := "ac8792d2287f5b4fc947c3e5dddaac99f17c8517d918bc984aefc7ad39b391f1", func := "mimesis/mimesislaw23.IrChecks", spec := "irChecks", unfollowed := true, recurses := true, named := ["mimesis/inst.names"], apart := false, laid := [("mimesis/inst.names", laid_mimesis_inst_names)] }
def IrChecksSaid : Prop := irChecksRow.holds Tryd.pinned (OpenSpec.ofChange irChecksSpec)

/-- ITS FALSE NEIGHBOUR: 'it returns false'. Refute it at one input. -/
def irChecksWrong : ChangeSpec := { name := "irChecks", fn := fun _ => fun
  | [d] => { results := [.lit (.bool false)], args := [d] }
  | _ => none }
def IrChecksWrongFalsely : Prop := irChecksRow.holds Tryd.pinned (OpenSpec.ofChange irChecksWrong)

/-- 'mimesislaw23.IrTexts': WHATEVER THE INPUT: true; the input reads as it did. -/
def irTextsSpec : ChangeSpec := { name := "irTexts", fn := fun _ => fun
  | [d] => { results := [.lit (.bool true)], args := [d] }
  | _ => none }
def irTextsRow : OpenClaim := { program := "ytlnbghhhifnbdaadoor", sum := "ac8792d2287f5b4fc947c3e5dddaac99f17c8517d918bc984aefc7ad39b391f1", func := "mimesis/mimesislaw23.IrTexts", spec := "irTexts", unfollowed := true, recurses := true, named := ["mimesis/inst.names"], apart := false, laid := [("mimesis/inst.names", laid_mimesis_inst_names)] }
def IrTextsSaid : Prop := irTextsRow.holds Tryd.pinned (OpenSpec.ofChange irTextsSpec)

/-- ITS FALSE NEIGHBOUR: 'it returns false'. Refute it at one input. -/
def irTextsWrong : ChangeSpec := { name := "irTexts", fn := fun _ => fun
  | [d] => { results := [.lit (.bool false)], args := [d] }
  | _ => none }
def IrTextsWrongFalsely : Prop := irTextsRow.holds Tryd.pinned (OpenSpec.ofChange irTextsWrong)

/-- 'mimesislaw23.IrUses': WHATEVER THE INPUT: true; the input reads as it did. -/
def irUsesSpec : ChangeSpec := { name := "irUses", fn := fun _ => fun
  | [d1, d2] => { results := [.lit (.bool true)], args := [d1, d2] }
  | _ => none }
def irUsesRow : OpenClaim := { program := "ytlnbghhhifnbdaadoor", sum := "ac8792d2287f5b4fc947c3e5dddaac99f17c8517d918bc984aefc7ad39b391f1", func := "mimesis/mimesislaw23.IrUses", spec := "irUses", unfollowed := true, recurses := true, named := ["mimesis/inst.names"], apart := false, laid := [("mimesis/inst.names", laid_mimesis_inst_names)] }
def IrUsesSaid : Prop := irUsesRow.holds Tryd.pinned (OpenSpec.ofChange irUsesSpec)

/-- ITS FALSE NEIGHBOUR: 'it returns false'. Refute it at one input. -/
def irUsesWrong : ChangeSpec := { name := "irUses", fn := fun _ => fun
  | [d1, d2] => { results := [.lit (.bool false)], args := [d1, d2] }
  | _ => none }
def IrUsesWrongFalsely : Prop := irUsesRow.holds Tryd.pinned (OpenSpec.ofChange irUsesWrong)

/-- 'mimesislaw23.IrClones': WHATEVER THE INPUT: true; the input reads as it did. -/
def irClonesSpec : ChangeSpec := { name := "irClones", fn := fun _ => fun
  | [d1, d2] => { results := [.lit (.bool true)], args := [d1, d2] }
  | _ => none }
def irClonesRow : OpenClaim := { program := "ytlnbghhhifnbdaadoor", sum := "ac8792d2287f5b4fc947c3e5dddaac99f17c8517d918bc984aefc7ad39b391f1", func := "mimesis/mimesislaw23.IrClones", spec := "irClones", unfollowed := true, recurses := true, named := ["mimesis/inst.names"], apart := false, laid := [("mimesis/inst.names", laid_mimesis_inst_names)] }
def IrClonesSaid : Prop := irClonesRow.holds Tryd.pinned (OpenSpec.ofChange irClonesSpec)

/-- ITS FALSE NEIGHBOUR: 'it returns false'. Refute it at one input. -/
def irClonesWrong : ChangeSpec := { name := "irClones", fn := fun _ => fun
  | [d1, d2] => { results := [.lit (.bool false)], args := [d1, d2] }
  | _ => none }
def IrClonesWrongFalsely : Prop := irClonesRow.holds Tryd.pinned (OpenSpec.ofChange irClonesWrong)

/- THE SECOND FORM. 'bulk': how many values and letters a reading holds, each counted each time it is reached (what is shared counts as often as it is met; a slice's spare places count too). A statement '..UptoSaid' is the law's where the arguments, and the package variables that the reading takes, are together of bulk at most 1048576: NARROWER than '..Said'. Prove '..Said' where nothing that the law and all that it calls make is longer than what came in: it says more and counts as full. Else prove '..UptoSaid'. A law counts once. -/
mutual
def uptoBulk {H : Type} : DataW H → Nat
  | .lit (.string bytes) => bytes.length + 1
  | .lit _ => 1
  | .nil => 1
  | .ptr d => uptoBulk d + 1
  | .slice elems spare => uptoBulkAll elems + uptoBulkAll spare + 1
  | .agg parts => uptoBulkAll parts + 1
  | .iface _ d => uptoBulk d + 1
  | .map entries => uptoBulkEntries entries + 1
  | .held _ => 1
def uptoBulkAll {H : Type} : List (DataW H) → Nat
  | [] => 0
  | d :: r => uptoBulk d + uptoBulkAll r
def uptoBulkEntries {H : Type} : List (Lit × DataW H) → Nat
  | [] => 0
  | x :: r => uptoBulkEntry x + uptoBulkEntries r
def uptoBulkEntry {H : Type} : Lit × DataW H → Nat
  | (.string bytes, d) => bytes.length + uptoBulk d + 1
  | (_, d) => uptoBulk d + 1
 end
def uptoSmall : (H : Type) → List (DataW H) → Bool := fun _ ds => decide (uptoBulkAll ds ≤ 1048576)
def OpenSpec.upto (s : _root_.Go.ChangeSpec) : _root_.Go.OpenSpec := { _root_.Go.OpenSpec.ofChange s with cond := some uptoSmall }

/-- 'mimesislaw23.IrChecks', WHERE WHAT IT READS IS OF BULK AT MOST 1048576: true; the input reads as it did. -/
def irChecksUptoRow : OpenClaim := { program := "ytlnbghhhifnbdaadoor", sum := "ac8792d2287f5b4fc947c3e5dddaac99f17c8517d918bc984aefc7ad39b391f1", func := "mimesis/mimesislaw23.IrChecks", spec := "irChecks", unfollowed := true, recurses := true, named := ["mimesis/inst.names"], apart := false, laid := [("mimesis/inst.names", laid_mimesis_inst_names)], narrowed := true }
def IrChecksUptoSaid : Prop := irChecksUptoRow.holds Tryd.pinned (OpenSpec.upto irChecksSpec)

/-- 'mimesislaw23.IrTexts', WHERE WHAT IT READS IS OF BULK AT MOST 1048576: true; the input reads as it did. -/
def irTextsUptoRow : OpenClaim := { program := "ytlnbghhhifnbdaadoor", sum := "ac8792d2287f5b4fc947c3e5dddaac99f17c8517d918bc984aefc7ad39b391f1", func := "mimesis/mimesislaw23.IrTexts", spec := "irTexts", unfollowed := true, recurses := true, named := ["mimesis/inst.names"], apart := false, laid := [("mimesis/inst.names", laid_mimesis_inst_names)], narrowed := true }
def IrTextsUptoSaid : Prop := irTextsUptoRow.holds Tryd.pinned (OpenSpec.upto irTextsSpec)

/-- 'mimesislaw23.IrUses', WHERE WHAT IT READS IS OF BULK AT MOST 1048576: true; the input reads as it did. -/
def irUsesUptoRow : OpenClaim := { program := "ytlnbghhhifnbdaadoor", sum := "ac8792d2287f5b4fc947c3e5dddaac99f17c8517d918bc984aefc7ad39b391f1", func := "mimesis/mimesislaw23.IrUses", spec := "irUses", unfollowed := true, recurses := true, named := ["mimesis/inst.names"], apart := false, laid := [("mimesis/inst.names", laid_mimesis_inst_names)], narrowed := true }
def IrUsesUptoSaid : Prop := irUsesUptoRow.holds Tryd.pinned (OpenSpec.upto irUsesSpec)

/-- 'mimesislaw23.IrClones', WHERE WHAT IT READS IS OF BULK AT MOST 1048576: true; the input reads as it did. -/
def irClonesUptoRow : OpenClaim := { program := "ytlnbghhhifnbdaadoor", sum := "ac8792d2287f5b4fc947c3e5dddaac99f17c8517d918bc984aefc7ad39b391f1", func := "mimesis/mimesislaw23.IrClones", spec := "irClones", unfollowed := true, recurses := true, named := ["mimesis/inst.names"], apart := false, laid := [("mimesis/inst.names", laid_mimesis_inst_names)], narrowed := true }
def IrClonesUptoSaid : Prop := irClonesUptoRow.holds Tryd.pinned (OpenSpec.upto irClonesSpec)

end Rows
end Go.Proofs.YtlnbghhhifnbdaaDoor
