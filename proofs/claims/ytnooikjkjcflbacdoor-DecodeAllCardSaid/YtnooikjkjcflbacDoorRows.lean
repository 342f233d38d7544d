/-
  NARROWER THAN 'FOR EVERY INPUT', by the rows' own cells (each row's printed sentence says how): DecodeApart: laid · DecodeTurned: laid · DecodeAll: laid · IrChecks: laid · IrTexts: laid · IrUses: laid · EncodeBack: laid.
  DERIVED. THE GIVEN ROWS OF THIS SEAT. 7 by the template 'for every input the law returns true; each argument reads behind the call as it read before'; 0 by the template 'total and deterministic' (their statements: YtnooikjkjcflbacDoorTotals.lean).
  GIVEN WITH THE SEED: the statements are not yours to turn. If you find one false, say at which input.
  Laid BY PROGRAM, IN A SANDBOX (cutbox-rows.mjs): the forced cells as the released guide's own fill.sh prints them over the translation 5d457387fbc195be… (all of the seat's roots in one cut). By AI agents, Wed Nov 11 2026. No macro, syntax, notation, axiom, sorry.
-/
import Derived.Test.YtnooikjkjcflbacDoorChecked
import GoSem.Claim
import GoSem.ClaimJoined
import GoSem.ClaimMapViews
import Derived.JoinedTies
import Derived.KernelRfl
namespace Go.Proofs.YtnooikjkjcflbacDoor
/- THE CELL 'sum', in the pinned program and in every row, IS THE sha256 OF THE DUMP (.gsa) THAT YtnooikjkjcflbacDoorProg.lean LOADS. Nothing in Lean hashes anything: it is a label: what it is worth is what the hold of that sum in a sandbox is worth. -/
noncomputable def Tryd.pinned : Pinned := { name := "ytnooikjkjcflbacdoor", sum := "5d457387fbc195bee7d1139b28ca35a618cbf5a96da2839a94f293b0f628ec91", checked := Tryd.checked }
namespace Rows
def none {H : Type} : Left H := { results := [], args := [] }

/- WHAT THE LISTED PACKAGE-LEVEL VARIABLES READ AS WHEN THE CALL BEGINS. Each datum BY PROGRAM (the guide's laid-datum.mjs) off the statement by which the dump's own 'gosem.cut.vars' lays the variable. In a bare row this is a premise. The card (YtnooikjkjcflbacDoorCards.lean) ties it to the program's text. -/
def laid_mimesis_inst_forms {H : Type} : DataW H := .agg [.lit (.int .i64 0), .lit (.int .i64 1), .lit (.int .i64 1), .lit (.int .i64 2), .lit (.int .i64 3), .lit (.int .i64 4), .lit (.int .i64 4), .lit (.int .i64 4), .lit (.int .i64 4), .lit (.int .i64 4), .lit (.int .i64 4), .lit (.int .i64 3), .lit (.int .i64 3), .lit (.int .i64 3), .lit (.int .i64 3), .lit (.int .i64 3), .lit (.int .i64 5), .lit (.int .i64 5), .lit (.int .i64 5), .lit (.int .i64 3), .lit (.int .i64 3), .lit (.int .i64 3), .lit (.int .i64 3), .lit (.int .i64 3), .lit (.int .i64 3), .lit (.int .i64 7), .lit (.int .i64 7), .lit (.int .i64 7), .lit (.int .i64 6), .lit (.int .i64 6), .lit (.int .i64 6), .lit (.int .i64 6), .lit (.int .i64 6), .lit (.int .i64 6), .lit (.int .i64 6), .lit (.int .i64 6), .lit (.int .i64 6), .lit (.int .i64 6), .lit (.int .i64 3), .lit (.int .i64 3), .lit (.int .i64 0), .lit (.int .i64 0), .lit (.int .i64 8), .lit (.int .i64 8), .lit (.int .i64 8), .lit (.int .i64 9), .lit (.int .i64 9), .lit (.int .i64 9), .lit (.int .i64 0), .lit (.int .i64 0), .lit (.int .i64 6), .lit (.int .i64 6), .lit (.int .i64 6), .lit (.int .i64 6), .lit (.int .i64 6), .lit (.int .i64 6), .lit (.int .i64 6), .lit (.int .i64 6)]
def laid_mimesis_inst_names {H : Type} : DataW H := .agg [.lit (.string [105, 108, 108, 101, 103, 97, 108]), .lit (.string [108, 117, 105]), .lit (.string [97, 117, 105, 112, 99]), .lit (.string [106, 97, 108]), .lit (.string [106, 97, 108, 114]), .lit (.string [98, 101, 113]), .lit (.string [98, 110, 101]), .lit (.string [98, 108, 116]), .lit (.string [98, 103, 101]), .lit (.string [98, 108, 116, 117]), .lit (.string [98, 103, 101, 117]), .lit (.string [108, 98]), .lit (.string [108, 104]), .lit (.string [108, 119]), .lit (.string [108, 98, 117]), .lit (.string [108, 104, 117]), .lit (.string [115, 98]), .lit (.string [115, 104]), .lit (.string [115, 119]), .lit (.string [97, 100, 100, 105]), .lit (.string [115, 108, 116, 105]), .lit (.string [115, 108, 116, 105, 117]), .lit (.string [120, 111, 114, 105]), .lit (.string [111, 114, 105]), .lit (.string [97, 110, 100, 105]), .lit (.string [115, 108, 108, 105]), .lit (.string [115, 114, 108, 105]), .lit (.string [115, 114, 97, 105]), .lit (.string [97, 100, 100]), .lit (.string [115, 117, 98]), .lit (.string [115, 108, 108]), .lit (.string [115, 108, 116]), .lit (.string [115, 108, 116, 117]), .lit (.string [120, 111, 114]), .lit (.string [115, 114, 108]), .lit (.string [115, 114, 97]), .lit (.string [111, 114]), .lit (.string [97, 110, 100]), .lit (.string [102, 101, 110, 99, 101]), .lit (.string [102, 101, 110, 99, 101, 46, 105]), .lit (.string [101, 99, 97, 108, 108]), .lit (.string [101, 98, 114, 101, 97, 107]), .lit (.string [99, 115, 114, 114, 119]), .lit (.string [99, 115, 114, 114, 115]), .lit (.string [99, 115, 114, 114, 99]), .lit (.string [99, 115, 114, 114, 119, 105]), .lit (.string [99, 115, 114, 114, 115, 105]), .lit (.string [99, 115, 114, 114, 99, 105]), .lit (.string [109, 114, 101, 116]), .lit (.string [119, 102, 105]), .lit (.string [109, 117, 108]), .lit (.string [109, 117, 108, 104]), .lit (.string [109, 117, 108, 104, 115, 117]), .lit (.string [109, 117, 108, 104, 117]), .lit (.string [100, 105, 118]), .lit (.string [100, 105, 118, 117]), .lit (.string [114, 101, 109]), .lit (.string [114, 101, 109, 117])]
def laid_mimesis_encode_matches {H : Type} : DataW H := .agg [.lit (.int .u32 0), .lit (.int .u32 55), .lit (.int .u32 23), .lit (.int .u32 111), .lit (.int .u32 103), .lit (.int .u32 99), .lit (.int .u32 4195), .lit (.int .u32 16483), .lit (.int .u32 20579), .lit (.int .u32 24675), .lit (.int .u32 28771), .lit (.int .u32 3), .lit (.int .u32 4099), .lit (.int .u32 8195), .lit (.int .u32 16387), .lit (.int .u32 20483), .lit (.int .u32 35), .lit (.int .u32 4131), .lit (.int .u32 8227), .lit (.int .u32 19), .lit (.int .u32 8211), .lit (.int .u32 12307), .lit (.int .u32 16403), .lit (.int .u32 24595), .lit (.int .u32 28691), .lit (.int .u32 4115), .lit (.int .u32 20499), .lit (.int .u32 1073762323), .lit (.int .u32 51), .lit (.int .u32 1073741875), .lit (.int .u32 4147), .lit (.int .u32 8243), .lit (.int .u32 12339), .lit (.int .u32 16435), .lit (.int .u32 20531), .lit (.int .u32 1073762355), .lit (.int .u32 24627), .lit (.int .u32 28723), .lit (.int .u32 15), .lit (.int .u32 4111), .lit (.int .u32 115), .lit (.int .u32 1048691), .lit (.int .u32 4211), .lit (.int .u32 8307), .lit (.int .u32 12403), .lit (.int .u32 20595), .lit (.int .u32 24691), .lit (.int .u32 28787), .lit (.int .u32 807403635), .lit (.int .u32 273678451), .lit (.int .u32 33554483), .lit (.int .u32 33558579), .lit (.int .u32 33562675), .lit (.int .u32 33566771), .lit (.int .u32 33570867), .lit (.int .u32 33574963), .lit (.int .u32 33579059), .lit (.int .u32 33583155)]

/-- 'mimesislaw03.DecodeApart': WHATEVER THE INPUT: true; the input reads as it did. -/
def decodeApartSpec : ChangeSpec := { name := "decodeApart", fn := fun _ => fun
  | [d1, d2] => { results := [.lit (.bool true)], args := [d1, d2] }
  | _ => none }
def decodeApartRow : OpenClaim := { program := "ytnooikjkjcflbacdoor", sum := "5d457387fbc195bee7d1139b28ca35a618cbf5a96da2839a94f293b0f628ec91", func := "mimesis/mimesislaw03.DecodeApart", spec := "decodeApart", named := ["mimesis/inst.forms"], apart := false, laid := [("mimesis/inst.forms", laid_mimesis_inst_forms)] }
def DecodeApartSaid : Prop := decodeApartRow.holds Tryd.pinned (OpenSpec.ofChange decodeApartSpec)

/-- ITS FALSE NEIGHBOUR: 'it returns false'. Refute it at one input. -/
def decodeApartWrong : ChangeSpec := { name := "decodeApart", fn := fun _ => fun
  | [d1, d2] => { results := [.lit (.bool false)], args := [d1, d2] }
  | _ => none }
def DecodeApartWrongFalsely : Prop := decodeApartRow.holds Tryd.pinned (OpenSpec.ofChange decodeApartWrong)

/-- 'mimesislaw03.DecodeTurned': WHATEVER THE INPUT: true; the input reads as it did. -/
def decodeTurnedSpec : ChangeSpec := { name := "decodeTurned", fn := fun _ => fun
  | [d1, d2] => { results := [.lit (.bool true)], args := [d1, d2] }
  | _ => none }
def decodeTurnedRow : OpenClaim := { program := "ytnooikjkjcflbacdoor", sum := "5d457387fbc195bee7d1139b28ca35a618cbf5a96da2839a94f293b0f628ec91", func := "mimesis/mimesislaw03.DecodeTurned", spec := "decodeTurned", named := ["mimesis/inst.forms"], apart := false, laid := [("mimesis/inst.forms", laid_mimesis_inst_forms)] }
def DecodeTurnedSaid : Prop := decodeTurnedRow.holds Tryd.pinned (OpenSpec.ofChange decodeTurnedSpec)

/-- ITS FALSE NEIGHBOUR: 'it returns false'. Refute it at one input. -/
def decodeTurnedWrong : ChangeSpec := { name := "decodeTurned", fn := fun _ => fun
  | [d1, d2] => { results := [.lit (.bool false)], args := [d1, d2] }
  | _ => none }
def DecodeTurnedWrongFalsely : Prop := decodeTurnedRow.holds Tryd.pinned (OpenSpec.ofChange decodeTurnedWrong)

/-- 'mimesislaw03.DecodeAll': WHATEVER THE INPUT: true; the input reads as it did. -/
def decodeAllSpec : ChangeSpec := { name := "decodeAll", fn := fun _ => fun
  | [d] => { results := [.lit (.bool true)], args := [d] }
  | _ => none }
def decodeAllRow : OpenClaim := { program := "ytnooikjkjcflbacdoor", sum := "5d457387fbc195bee7d1139b28ca35a618cbf5a96da2839a94f293b0f628ec91", func := "mimesis/mimesislaw03.DecodeAll", spec := "decodeAll", named := ["mimesis/inst.forms"], apart := false, laid := [("mimesis/inst.forms", laid_mimesis_inst_forms)] }
def DecodeAllSaid : Prop := decodeAllRow.holds Tryd.pinned (OpenSpec.ofChange decodeAllSpec)

/-- ITS FALSE NEIGHBOUR: 'it returns false'. Refute it at one input. -/
def decodeAllWrong : ChangeSpec := { name := "decodeAll", fn := fun _ => fun
  | [d] => { results := [.lit (.bool false)], args := [d] }
  | _ => none }
def DecodeAllWrongFalsely : Prop := decodeAllRow.holds Tryd.pinned (OpenSpec.ofChange decodeAllWrong)

/-- 'mimesislaw23.IrChecks': WHATEVER THE INPUT: true; the input reads as it did. -/
def irChecksSpec : ChangeSpec := { name := "irChecks", fn := fun _ => fun
  | [d] => { results := [.lit (.bool true)], args := [d] }
  | _ => none }
def irChecksRow : OpenClaim := { program := "ytnooikjkjcflbacdoor", sum := "5d457387fbc195bee7d1139b28ca35a618cbf5a96da2839a94f293b0f628ec91", func := "mimesis/mimesislaw23.IrChecks", spec := "irChecks", unfollowed := true, recurses := true, named := ["mimesis/inst.names"], apart := false, laid := [("mimesis/inst.names", laid_mimesis_inst_names)] }
def IrChecksSaid : Prop := irChecksRow.holds Tryd.pinned (OpenSpec.ofChange irChecksSpec)

/-- ITS FALSE NEIGHBOUR: 'it returns false'. Refute it at one input. -/
def irChecksWrong : ChangeSpec := { name := "irChecks", fn := fun _ => fun
  | [d] => { results := [.lit (.bool false)], args := [d] }
  | _ => none }
def IrChecksWrongFalsely : Prop := irChecksRow.holds Tryd.pinned (OpenSpec.ofChange irChecksWrong)

/-- 'mimesislaw23.IrTexts': WHATEVER THE INPUT: true; the input reads as it did. -/
def irTextsSpec : ChangeSpec := { name := "irTexts", fn := fun _ => fun
  | [d] => { results := [.lit (.bool true)], args := [d] }
  | _ => none }
def irTextsRow : OpenClaim := { program := "ytnooikjkjcflbacdoor", sum := "5d457387fbc195bee7d1139b28ca35a618cbf5a96da2839a94f293b0f628ec91", func := "mimesis/mimesislaw23.IrTexts", spec := "irTexts", unfollowed := true, recurses := true, named := ["mimesis/inst.names"], apart := false, laid := [("mimesis/inst.names", laid_mimesis_inst_names)] }
def IrTextsSaid : Prop := irTextsRow.holds Tryd.pinned (OpenSpec.ofChange irTextsSpec)

/-- ITS FALSE NEIGHBOUR: 'it returns false'. Refute it at one input. -/
def irTextsWrong : ChangeSpec := { name := "irTexts", fn := fun _ => fun
  | [d] => { results := [.lit (.bool false)], args := [d] }
  | _ => none }
def IrTextsWrongFalsely : Prop := irTextsRow.holds Tryd.pinned (OpenSpec.ofChange irTextsWrong)

/-- 'mimesislaw23.IrUses': WHATEVER THE INPUT: true; the input reads as it did. -/
def irUsesSpec : ChangeSpec := { name := "irUses", fn := fun _ => fun
  | [d1, d2] => { results := [.lit (.bool true)], args := [d1, d2] }
  | _ => none }
def irUsesRow : OpenClaim := { program := "ytnooikjkjcflbacdoor", sum := "5d457387fbc195bee7d1139b28ca35a618cbf5a96da2839a94f293b0f628ec91", func := "mimesis/mimesislaw23.IrUses", spec := "irUses", unfollowed := true, recurses := true, named := ["mimesis/inst.names"], apart := false, laid := [("mimesis/inst.names", laid_mimesis_inst_names)] }
def IrUsesSaid : Prop := irUsesRow.holds Tryd.pinned (OpenSpec.ofChange irUsesSpec)

/-- ITS FALSE NEIGHBOUR: 'it returns false'. Refute it at one input. -/
def irUsesWrong : ChangeSpec := { name := "irUses", fn := fun _ => fun
  | [d1, d2] => { results := [.lit (.bool false)], args := [d1, d2] }
  | _ => none }
def IrUsesWrongFalsely : Prop := irUsesRow.holds Tryd.pinned (OpenSpec.ofChange irUsesWrong)

/-- 'mimesislaw04.EncodeBack': WHATEVER THE INPUT: true; the input reads as it did. -/
def encodeBackSpec : ChangeSpec := { name := "encodeBack", fn := fun _ => fun
  | [d1, d2] => { results := [.lit (.bool true)], args := [d1, d2] }
  | _ => none }
def encodeBackRow : OpenClaim := { program := "ytnooikjkjcflbacdoor", sum := "5d457387fbc195bee7d1139b28ca35a618cbf5a96da2839a94f293b0f628ec91", func := "mimesis/mimesislaw04.EncodeBack", spec := "encodeBack", unfollowed := true, recurses := true, named := ["mimesis/encode.matches", "mimesis/inst.forms"], apart := false, laid := [("mimesis/inst.forms", laid_mimesis_inst_forms), ("mimesis/encode.matches", laid_mimesis_encode_matches)] }
def EncodeBackSaid : Prop := encodeBackRow.holds Tryd.pinned (OpenSpec.ofChange encodeBackSpec)

/-- ITS FALSE NEIGHBOUR: 'it returns false'. Refute it at one input. -/
def encodeBackWrong : ChangeSpec := { name := "encodeBack", fn := fun _ => fun
  | [d1, d2] => { results := [.lit (.bool false)], args := [d1, d2] }
  | _ => none }
def EncodeBackWrongFalsely : Prop := encodeBackRow.holds Tryd.pinned (OpenSpec.ofChange encodeBackWrong)

/- THE SECOND FORM. 'bulk': how many values and letters a reading holds, each counted each time it is reached (what is shared counts as often as it is met; a slice's spare places count too). A statement '..UptoSaid' is the law's where the arguments, and the package variables that the reading takes, are together of bulk at most 1048576: NARROWER than '..Said'. Prove '..Said' where nothing that the law and all that it calls make is longer than what came in: it says more and counts as full. Else prove '..UptoSaid'. A law counts once. -/
mutual
def uptoBulk {H : Type} : DataW H → Nat
  | .lit (.string bytes) => bytes.length + 1
  | .lit _ => 1
  | .nil => 1
  | .ptr d => uptoBulk d + 1
  | .slice elems spare => uptoBulkAll elems + uptoBulkAll spare + 1
  | .agg parts => uptoBulkAll parts + 1
  | .iface _ d => uptoBulk d + 1
  | .map entries => uptoBulkEntries entries + 1
  | .held _ => 1
def uptoBulkAll {H : Type} : List (DataW H) → Nat
  | [] => 0
  | d :: r => uptoBulk d + uptoBulkAll r
def uptoBulkEntries {H : Type} : List (Lit × DataW H) → Nat
  | [] => 0
  | x :: r => uptoBulkEntry x + uptoBulkEntries r
def uptoBulkEntry {H : Type} : Lit × DataW H → Nat
  | (.string bytes, d) => bytes.length + uptoBulk d + 1
  | (_, d) => uptoBulk d + 1
 end
def uptoSmall : (H : Type) → List (DataW H) → Bool := fun _ ds => decide (uptoBulkAll ds ≤ 1048576)
def OpenSpec.upto (s : _root_.Go.ChangeSpec) : _root_.Go.OpenSpec := { _root_.Go.OpenSpec.ofChange s with cond := some uptoSmall }

/-- 'mimesislaw03.DecodeApart', WHERE WHAT IT READS IS OF BULK AT MOST 1048576: true; the input reads as it did. -/
def decodeApartUptoRow : OpenClaim := { program := "ytnooikjkjcflbacdoor", sum := "5d457387fbc195bee7d1139b28ca35a618cbf5a96da2839a94f293b0f628ec91", func := "mimesis/mimesislaw03.DecodeApart", spec := "decodeApart", named := ["mimesis/inst.forms"], apart := false, laid := [("mimesis/inst.forms", laid_mimesis_inst_forms)], narrowed := true }
def DecodeApartUptoSaid : Prop := decodeApartUptoRow.holds Tryd.pinned (OpenSpec.upto decodeApartSpec)

/-- 'mimesislaw03.DecodeTurned', WHERE WHAT IT READS IS OF BULK AT MOST 1048576: true; the input reads as it did. -/
def decodeTurnedUptoRow : OpenClaim := { program := "ytnooikjkjcflbacdoor", sum := "5d457387fbc195bee7d1139b28ca35a618cbf5a96da2839a94f293b0f628ec91", func := "mimesis/mimesislaw03.DecodeTurned", spec := "decodeTurned", named := ["mimesis/inst.forms"], apart := false, laid := [("mimesis/inst.forms", laid_mimesis_inst_forms)], narrowed := true }
def DecodeTurnedUptoSaid : Prop := decodeTurnedUptoRow.holds Tryd.pinned (OpenSpec.upto decodeTurnedSpec)

/-- 'mimesislaw03.DecodeAll', WHERE WHAT IT READS IS OF BULK AT MOST 1048576: true; the input reads as it did. -/
def decodeAllUptoRow : OpenClaim := { program := "ytnooikjkjcflbacdoor", sum := "5d457387fbc195bee7d1139b28ca35a618cbf5a96da2839a94f293b0f628ec91", func := "mimesis/mimesislaw03.DecodeAll", spec := "decodeAll", named := ["mimesis/inst.forms"], apart := false, laid := [("mimesis/inst.forms", laid_mimesis_inst_forms)], narrowed := true }
def DecodeAllUptoSaid : Prop := decodeAllUptoRow.holds Tryd.pinned (OpenSpec.upto decodeAllSpec)

/-- 'mimesislaw23.IrChecks', WHERE WHAT IT READS IS OF BULK AT MOST 1048576: true; the input reads as it did. -/
def irChecksUptoRow : OpenClaim := { program := "ytnooikjkjcflbacdoor", sum := "5d457387fbc195bee7d1139b28ca35a618cbf5a96da2839a94f293b0f628ec91", func := "mimesis/mimesislaw23.IrChecks", spec := "irChecks", unfollowed := true, recurses := true, named := ["mimesis/inst.names"], apart := false, laid := [("mimesis/inst.names", laid_mimesis_inst_names)], narrowed := true }
def IrChecksUptoSaid : Prop := irChecksUptoRow.holds Tryd.pinned (OpenSpec.upto irChecksSpec)

/-- 'mimesislaw23.IrTexts', WHERE WHAT IT READS IS OF BULK AT MOST 1048576: true; the input reads as it did. -/
def irTextsUptoRow : OpenClaim := { program := "ytnooikjkjcflbacdoor", sum := "5d457387fbc195bee7d1139b28ca35a618cbf5a96da2839a94f293b0f628ec91", func := "mimesis/mimesislaw23.IrTexts", spec := "irTexts", unfollowed := true, recurses := true, named := ["mimesis/inst.names"], apart := false, laid := [("mimesis/inst.names", laid_mimesis_inst_names)], narrowed := true }
def IrTextsUptoSaid : Prop := irTextsUptoRow.holds Tryd.pinned (OpenSpec.upto irTextsSpec)

/-- 'mimesislaw23.IrUses', WHERE WHAT IT READS IS OF BULK AT MOST 1048576: true; the input reads as it did. -/
def irUsesUptoRow : OpenClaim := { program := "ytnooikjkjcflbacdoor", sum := "5d457387fbc195bee7d1139b28ca35a618cbf5a96da2839a94f293b0f628ec91", func := "mimesis/mimesislaw23.IrUses", spec := "irUses", unfollowed := true, recurses := true, named := ["mimesis/inst.names"], apart := false, laid := [("mimesis/inst.names", laid_mimesis_inst_names)], narrowed := true }
def IrUsesUptoSaid : Prop := irUsesUptoRow.holds Tryd.pinned (OpenSpec.upto irUsesSpec)

/-- 'mimesislaw04.EncodeBack', WHERE WHAT IT READS IS OF BULK AT MOST 1048576: true; the input reads as it did. -/
def encodeBackUptoRow : OpenClaim := { program := "ytnooikjkjcflbacdoor", sum := "5d457387fbc195bee7d1139b28ca35a618cbf5a96da2839a94f293b0f628ec91", func := "mimesis/mimesislaw04.EncodeBack", spec := "encodeBack", unfollowed := true, recurses := true, named := ["mimesis/encode.matches", "mimesis/inst.forms"], apart := false, laid := [("mimesis/inst.forms", laid_mimesis_inst_forms), ("mimesis/encode.matches", laid_mimesis_encode_matches)], narrowed := true }
def EncodeBackUptoSaid : Prop := encodeBackUptoRow.holds Tryd.pinned (OpenSpec.upto encodeBackSpec)

end Rows
end Go.Proofs.YtnooikjkjcflbacDoor
