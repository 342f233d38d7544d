/-
  NARROWER THAN 'FOR EVERY INPUT', by the rows' own cells (each row's printed sentence says how): IrClones: laid · DisasmNumbers: laid · DisasmTexts: laid · DisasmApart: laid · DisasmWords: laid.
  DERIVED. THE GIVEN ROWS OF THIS SEAT. 5 by the template 'for every input the law returns true; each argument reads behind the call as it read before'; 0 by the template 'total and deterministic' (their statements: YtnooikjkjcflbadDoorTotals.lean).
  GIVEN WITH THE SEED: the statements are not yours to turn. If you find one false, say at which input.
  Laid BY PROGRAM, IN A SANDBOX (cutbox-rows.mjs): the forced cells as the released guide's own fill.sh prints them over the translation 81ce9f6d00bdac5c… (all of the seat's roots in one cut). By AI agents, Wed Nov 11 2026. No macro, syntax, notation, axiom, sorry.
-/
import Derived.Test.YtnooikjkjcflbadDoorChecked
import GoSem.Claim
import GoSem.ClaimJoined
import GoSem.ClaimMapViews
import Derived.JoinedTies
import Derived.KernelRfl
namespace Go.Proofs.YtnooikjkjcflbadDoor
/- THE CELL 'sum', in the pinned program and in every row, IS THE sha256 OF THE DUMP (.gsa) THAT YtnooikjkjcflbadDoorProg.lean LOADS. Nothing in Lean hashes anything: it is a label: what it is worth is what the hold of that sum in a sandbox is worth. -/
noncomputable def Tryd.pinned : Pinned := { name := "ytnooikjkjcflbaddoor", sum := "81ce9f6d00bdac5cf6da3038c6577f7852123a0ea88740dbac36c4b8102b402f", checked := Tryd.checked }
namespace Rows
def none {H : Type} : Left H := { results := [], args := [] }

/- WHAT THE LISTED PACKAGE-LEVEL VARIABLES READ AS WHEN THE CALL BEGINS. Each datum BY PROGRAM (the guide's laid-datum.mjs) off the statement by which the dump's own 'gosem.cut.vars' lays the variable. In a bare row this is a premise. The card (YtnooikjkjcflbadDoorCards.lean) ties it to the program's text. -/
def laid_mimesis_inst_names {H : Type} : DataW H := .agg [.lit (.string [105, 108, 108, 101, 103, 97, 108]), .lit (.string [108, 117, 105]), .lit (.string [97, 117, 105, 112, 99]), .lit (.string [106, 97, 108]), .lit (.string [106, 97, 108, 114]), .lit (.string [98, 101, 113]), .lit (.string [98, 110, 101]), .lit (.string [98, 108, 116]), .lit (.string [98, 103, 101]), .lit (.string [98, 108, 116, 117]), .lit (.string [98, 103, 101, 117]), .lit (.string [108, 98]), .lit (.string [108, 104]), .lit (.string [108, 119]), .lit (.string [108, 98, 117]), .lit (.string [108, 104, 117]), .lit (.string [115, 98]), .lit (.string [115, 104]), .lit (.string [115, 119]), .lit (.string [97, 100, 100, 105]), .lit (.string [115, 108, 116, 105]), .lit (.string [115, 108, 116, 105, 117]), .lit (.string [120, 111, 114, 105]), .lit (.string [111, 114, 105]), .lit (.string [97, 110, 100, 105]), .lit (.string [115, 108, 108, 105]), .lit (.string [115, 114, 108, 105]), .lit (.string [115, 114, 97, 105]), .lit (.string [97, 100, 100]), .lit (.string [115, 117, 98]), .lit (.string [115, 108, 108]), .lit (.string [115, 108, 116]), .lit (.string [115, 108, 116, 117]), .lit (.string [120, 111, 114]), .lit (.string [115, 114, 108]), .lit (.string [115, 114, 97]), .lit (.string [111, 114]), .lit (.string [97, 110, 100]), .lit (.string [102, 101, 110, 99, 101]), .lit (.string [102, 101, 110, 99, 101, 46, 105]), .lit (.string [101, 99, 97, 108, 108]), .lit (.string [101, 98, 114, 101, 97, 107]), .lit (.string [99, 115, 114, 114, 119]), .lit (.string [99, 115, 114, 114, 115]), .lit (.string [99, 115, 114, 114, 99]), .lit (.string [99, 115, 114, 114, 119, 105]), .lit (.string [99, 115, 114, 114, 115, 105]), .lit (.string [99, 115, 114, 114, 99, 105]), .lit (.string [109, 114, 101, 116]), .lit (.string [119, 102, 105]), .lit (.string [109, 117, 108]), .lit (.string [109, 117, 108, 104]), .lit (.string [109, 117, 108, 104, 115, 117]), .lit (.string [109, 117, 108, 104, 117]), .lit (.string [100, 105, 118]), .lit (.string [100, 105, 118, 117]), .lit (.string [114, 101, 109]), .lit (.string [114, 101, 109, 117])]
def laid_mimesis_inst_forms {H : Type} : DataW H := .agg [.lit (.int .i64 0), .lit (.int .i64 1), .lit (.int .i64 1), .lit (.int .i64 2), .lit (.int .i64 3), .lit (.int .i64 4), .lit (.int .i64 4), .lit (.int .i64 4), .lit (.int .i64 4), .lit (.int .i64 4), .lit (.int .i64 4), .lit (.int .i64 3), .lit (.int .i64 3), .lit (.int .i64 3), .lit (.int .i64 3), .lit (.int .i64 3), .lit (.int .i64 5), .lit (.int .i64 5), .lit (.int .i64 5), .lit (.int .i64 3), .lit (.int .i64 3), .lit (.int .i64 3), .lit (.int .i64 3), .lit (.int .i64 3), .lit (.int .i64 3), .lit (.int .i64 7), .lit (.int .i64 7), .lit (.int .i64 7), .lit (.int .i64 6), .lit (.int .i64 6), .lit (.int .i64 6), .lit (.int .i64 6), .lit (.int .i64 6), .lit (.int .i64 6), .lit (.int .i64 6), .lit (.int .i64 6), .lit (.int .i64 6), .lit (.int .i64 6), .lit (.int .i64 3), .lit (.int .i64 3), .lit (.int .i64 0), .lit (.int .i64 0), .lit (.int .i64 8), .lit (.int .i64 8), .lit (.int .i64 8), .lit (.int .i64 9), .lit (.int .i64 9), .lit (.int .i64 9), .lit (.int .i64 0), .lit (.int .i64 0), .lit (.int .i64 6), .lit (.int .i64 6), .lit (.int .i64 6), .lit (.int .i64 6), .lit (.int .i64 6), .lit (.int .i64 6), .lit (.int .i64 6), .lit (.int .i64 6)]

/-- 'mimesislaw23.IrClones': WHATEVER THE INPUT: true; the input reads as it did. -/
def irClonesSpec : ChangeSpec := { name := "irClones", fn := fun _ => fun
  | [d1, d2] => { results := [.lit (.bool true)], args := [d1, d2] }
  | _ => none }
def irClonesRow : OpenClaim := { program := "ytnooikjkjcflbaddoor", sum := "81ce9f6d00bdac5cf6da3038c6577f7852123a0ea88740dbac36c4b8102b402f", func := "mimesis/mimesislaw23.IrClones", spec := "irClones", unfollowed := true, recurses := true, named := ["mimesis/inst.names"], apart := false, laid := [("mimesis/inst.names", laid_mimesis_inst_names)] }
def IrClonesSaid : Prop := irClonesRow.holds Tryd.pinned (OpenSpec.ofChange irClonesSpec)

/-- ITS FALSE NEIGHBOUR: 'it returns false'. Refute it at one input. -/
def irClonesWrong : ChangeSpec := { name := "irClones", fn := fun _ => fun
  | [d1, d2] => { results := [.lit (.bool false)], args := [d1, d2] }
  | _ => none }
def IrClonesWrongFalsely : Prop := irClonesRow.holds Tryd.pinned (OpenSpec.ofChange irClonesWrong)

/-- 'mimesislaw05.DisasmNumbers': WHATEVER THE INPUT: true; the input reads as it did. -/
def disasmNumbersSpec : ChangeSpec := { name := "disasmNumbers", fn := fun _ => fun
  | [d] => { results := [.lit (.bool true)], args := [d] }
  | _ => none }
def disasmNumbersRow : OpenClaim := { program := "ytnooikjkjcflbaddoor", sum := "81ce9f6d00bdac5cf6da3038c6577f7852123a0ea88740dbac36c4b8102b402f", func := "mimesis/mimesislaw05.DisasmNumbers", spec := "disasmNumbers", named := ["mimesis/inst.forms", "mimesis/inst.names"], apart := false, laid := [("mimesis/inst.names", laid_mimesis_inst_names), ("mimesis/inst.forms", laid_mimesis_inst_forms)] }
def DisasmNumbersSaid : Prop := disasmNumbersRow.holds Tryd.pinned (OpenSpec.ofChange disasmNumbersSpec)

/-- ITS FALSE NEIGHBOUR: 'it returns false'. Refute it at one input. -/
def disasmNumbersWrong : ChangeSpec := { name := "disasmNumbers", fn := fun _ => fun
  | [d] => { results := [.lit (.bool false)], args := [d] }
  | _ => none }
def DisasmNumbersWrongFalsely : Prop := disasmNumbersRow.holds Tryd.pinned (OpenSpec.ofChange disasmNumbersWrong)

/-- 'mimesislaw05.DisasmTexts': WHATEVER THE INPUT: true; the input reads as it did. -/
def disasmTextsSpec : ChangeSpec := { name := "disasmTexts", fn := fun _ => fun
  | [d] => { results := [.lit (.bool true)], args := [d] }
  | _ => none }
def disasmTextsRow : OpenClaim := { program := "ytnooikjkjcflbaddoor", sum := "81ce9f6d00bdac5cf6da3038c6577f7852123a0ea88740dbac36c4b8102b402f", func := "mimesis/mimesislaw05.DisasmTexts", spec := "disasmTexts", named := ["mimesis/inst.forms", "mimesis/inst.names"], apart := false, laid := [("mimesis/inst.names", laid_mimesis_inst_names), ("mimesis/inst.forms", laid_mimesis_inst_forms)] }
def DisasmTextsSaid : Prop := disasmTextsRow.holds Tryd.pinned (OpenSpec.ofChange disasmTextsSpec)

/-- ITS FALSE NEIGHBOUR: 'it returns false'. Refute it at one input. -/
def disasmTextsWrong : ChangeSpec := { name := "disasmTexts", fn := fun _ => fun
  | [d] => { results := [.lit (.bool false)], args := [d] }
  | _ => none }
def DisasmTextsWrongFalsely : Prop := disasmTextsRow.holds Tryd.pinned (OpenSpec.ofChange disasmTextsWrong)

/-- 'mimesislaw05.DisasmApart': WHATEVER THE INPUT: true; the input reads as it did. -/
def disasmApartSpec : ChangeSpec := { name := "disasmApart", fn := fun _ => fun
  | [d1, d2] => { results := [.lit (.bool true)], args := [d1, d2] }
  | _ => none }
def disasmApartRow : OpenClaim := { program := "ytnooikjkjcflbaddoor", sum := "81ce9f6d00bdac5cf6da3038c6577f7852123a0ea88740dbac36c4b8102b402f", func := "mimesis/mimesislaw05.DisasmApart", spec := "disasmApart", named := ["mimesis/inst.forms", "mimesis/inst.names"], apart := false, laid := [("mimesis/inst.names", laid_mimesis_inst_names), ("mimesis/inst.forms", laid_mimesis_inst_forms)] }
def DisasmApartSaid : Prop := disasmApartRow.holds Tryd.pinned (OpenSpec.ofChange disasmApartSpec)

/-- ITS FALSE NEIGHBOUR: 'it returns false'. Refute it at one input. -/
def disasmApartWrong : ChangeSpec := { name := "disasmApart", fn := fun _ => fun
  | [d1, d2] => { results := [.lit (.bool false)], args := [d1, d2] }
  | _ => none }
def DisasmApartWrongFalsely : Prop := disasmApartRow.holds Tryd.pinned (OpenSpec.ofChange disasmApartWrong)

/-- 'mimesislaw05.DisasmWords': WHATEVER THE INPUT: true; the input reads as it did. -/
def disasmWordsSpec : ChangeSpec := { name := "disasmWords", fn := fun _ => fun
  | [d] => { results := [.lit (.bool true)], args := [d] }
  | _ => none }
def disasmWordsRow : OpenClaim := { program := "ytnooikjkjcflbaddoor", sum := "81ce9f6d00bdac5cf6da3038c6577f7852123a0ea88740dbac36c4b8102b402f", func := "mimesis/mimesislaw05.DisasmWords", spec := "disasmWords", named := ["mimesis/inst.forms", "mimesis/inst.names"], apart := false, laid := [("mimesis/inst.names", laid_mimesis_inst_names), ("mimesis/inst.forms", laid_mimesis_inst_forms)] }
def DisasmWordsSaid : Prop := disasmWordsRow.holds Tryd.pinned (OpenSpec.ofChange disasmWordsSpec)

/-- ITS FALSE NEIGHBOUR: 'it returns false'. Refute it at one input. -/
def disasmWordsWrong : ChangeSpec := { name := "disasmWords", fn := fun _ => fun
  | [d] => { results := [.lit (.bool false)], args := [d] }
  | _ => none }
def DisasmWordsWrongFalsely : Prop := disasmWordsRow.holds Tryd.pinned (OpenSpec.ofChange disasmWordsWrong)

/- THE SECOND FORM. 'bulk': how many values and letters a reading holds, each counted each time it is reached (what is shared counts as often as it is met; a slice's spare places count too). A statement '..UptoSaid' is the law's where the arguments, and the package variables that the reading takes, are together of bulk at most 1048576: NARROWER than '..Said'. Prove '..Said' where nothing that the law and all that it calls make is longer than what came in: it says more and counts as full. Else prove '..UptoSaid'. A law counts once. -/
mutual
def uptoBulk {H : Type} : DataW H → Nat
  | .lit (.string bytes) => bytes.length + 1
  | .lit _ => 1
  | .nil => 1
  | .ptr d => uptoBulk d + 1
  | .slice elems spare => uptoBulkAll elems + uptoBulkAll spare + 1
  | .agg parts => uptoBulkAll parts + 1
  | .iface _ d => uptoBulk d + 1
  | .map entries => uptoBulkEntries entries + 1
  | .held _ => 1
def uptoBulkAll {H : Type} : List (DataW H) → Nat
  | [] => 0
  | d :: r => uptoBulk d + uptoBulkAll r
def uptoBulkEntries {H : Type} : List (Lit × DataW H) → Nat
  | [] => 0
  | x :: r => uptoBulkEntry x + uptoBulkEntries r
def uptoBulkEntry {H : Type} : Lit × DataW H → Nat
  | (.string bytes, d) => bytes.length + uptoBulk d + 1
  | (_, d) => uptoBulk d + 1
 end
def uptoSmall : (H : Type) → List (DataW H) → Bool := fun _ ds => decide (uptoBulkAll ds ≤ 1048576)
def OpenSpec.upto (s : _root_.Go.ChangeSpec) : _root_.Go.OpenSpec := { _root_.Go.OpenSpec.ofChange s with cond := some uptoSmall }

/-- 'mimesislaw23.IrClones', WHERE WHAT IT READS IS OF BULK AT MOST 1048576: true; the input reads as it did. -/
def irClonesUptoRow : OpenClaim := { program := "ytnooikjkjcflbaddoor", sum := "81ce9f6d00bdac5cf6da3038c6577f7852123a0ea88740dbac36c4b8102b402f", func := "mimesis/mimesislaw23.IrClones", spec := "irClones", unfollowed := true, recurses := true, named := ["mimesis/inst.names"], apart := false, laid := [("mimesis/inst.names", laid_mimesis_inst_names)], narrowed := true }
def IrClonesUptoSaid : Prop := irClonesUptoRow.holds Tryd.pinned (OpenSpec.upto irClonesSpec)

/-- 'mimesislaw05.DisasmNumbers', WHERE WHAT IT READS IS OF BULK AT MOST 1048576: true; the input reads as it did. -/
def disasmNumbersUptoRow : OpenClaim := { program := "ytnooikjkjcflbaddoor", sum := "81ce9f6d00bdac5cf6da3038c6577f7852123a0ea88740dbac36c4b8102b402f", func := "mimesis/mimesislaw05.DisasmNumbers", spec := "disasmNumbers", named := ["mimesis/inst.forms", "mimesis/inst.names"], apart := false, laid := [("mimesis/inst.names", laid_mimesis_inst_names), ("mimesis/inst.forms", laid_mimesis_inst_forms)], narrowed := true }
def DisasmNumbersUptoSaid : Prop := disasmNumbersUptoRow.holds Tryd.pinned (OpenSpec.upto disasmNumbersSpec)

/-- 'mimesislaw05.DisasmTexts', WHERE WHAT IT READS IS OF BULK AT MOST 1048576: true; the input reads as it did. -/
def disasmTextsUptoRow : OpenClaim := { program := "ytnooikjkjcflbaddoor", sum := "81ce9f6d00bdac5cf6da3038c6577f7852123a0ea88740dbac36c4b8102b402f", func := "mimesis/mimesislaw05.DisasmTexts", spec := "disasmTexts", named := ["mimesis/inst.forms", "mimesis/inst.names"], apart := false, laid := [("mimesis/inst.names", laid_mimesis_inst_names), ("mimesis/inst.forms", laid_mimesis_inst_forms)], narrowed := true }
def DisasmTextsUptoSaid : Prop := disasmTextsUptoRow.holds Tryd.pinned (OpenSpec.upto disasmTextsSpec)

/-- 'mimesislaw05.DisasmApart', WHERE WHAT IT READS IS OF BULK AT MOST 1048576: true; the input reads as it did. -/
def disasmApartUptoRow : OpenClaim := { program := "ytnooikjkjcflbaddoor", sum := "81ce9f6d00bdac5cf6da3038c6577f7852123a0ea88740dbac36c4b8102b402f", func := "mimesis/mimesislaw05.DisasmApart", spec := "disasmApart", named := ["mimesis/inst.forms", "mimesis/inst.names"], apart := false, laid := [("mimesis/inst.names", laid_mimesis_inst_names), ("mimesis/inst.forms", laid_mimesis_inst_forms)], narrowed := true }
def DisasmApartUptoSaid : Prop := disasmApartUptoRow.holds Tryd.pinned (OpenSpec.upto disasmApartSpec)

/-- 'mimesislaw05.DisasmWords', WHERE WHAT IT READS IS OF BULK AT MOST 1048576: true; the input reads as it did. -/
def disasmWordsUptoRow : OpenClaim := { program := "ytnooikjkjcflbaddoor", sum := "81ce9f6d00bdac5cf6da3038c6577f7852123a0ea88740dbac36c4b8102b402f", func := "mimesis/mimesislaw05.DisasmWords", spec := "disasmWords", named := ["mimesis/inst.forms", "mimesis/inst.names"], apart := false, laid := [("mimesis/inst.names", laid_mimesis_inst_names), ("mimesis/inst.forms", laid_mimesis_inst_forms)], narrowed := true }
def DisasmWordsUptoSaid : Prop := disasmWordsUptoRow.holds Tryd.pinned (OpenSpec.upto disasmWordsSpec)

end Rows
end Go.Proofs.YtnooikjkjcflbadDoor
