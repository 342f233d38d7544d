/-
  NARROWER THAN 'FOR EVERY INPUT', by the rows' own cells (each row's printed sentence says how): InstUses: laid · InstKinds: laid · EncodeWords: laid · CsrWrites: laid · EncodeConstants: laid · EncodeLists: laid · DecodeWords: laid · DecodeRight: laid.
  DERIVED. THE GIVEN ROWS OF THIS SEAT. 8 by the template 'for every input the law returns true; each argument reads behind the call as it read before'; 0 by the template 'total and deterministic' (their statements: YtnooikjkjcflbabDoorTotals.lean).
  GIVEN WITH THE SEED: the statements are not yours to turn. If you find one false, say at which input.
  Laid BY PROGRAM, IN A SANDBOX (cutbox-rows.mjs): the forced cells as the released guide's own fill.sh prints them over the translation 0a35e9b5f8de2c17… (all of the seat's roots in one cut). By AI agents, Wed Nov 11 2026. No macro, syntax, notation, axiom, sorry.
-/
import Derived.Test.YtnooikjkjcflbabDoorChecked
import GoSem.Claim
import GoSem.ClaimJoined
import GoSem.ClaimMapViews
import Derived.JoinedTies
import Derived.KernelRfl
namespace Go.Proofs.YtnooikjkjcflbabDoor
/- THE CELL 'sum', in the pinned program and in every row, IS THE sha256 OF THE DUMP (.gsa) THAT YtnooikjkjcflbabDoorProg.lean LOADS. Nothing in Lean hashes anything: it is a label: what it is worth is what the hold of that sum in a sandbox is worth. -/
noncomputable def Tryd.pinned : Pinned := { name := "ytnooikjkjcflbabdoor", sum := "0a35e9b5f8de2c17cb1cf1d22ad64445368e8443564e61ae51e47331e939cdc2", checked := Tryd.checked }
namespace Rows
def none {H : Type} : Left H := { results := [], args := [] }

/- WHAT THE LISTED PACKAGE-LEVEL VARIABLES READ AS WHEN THE CALL BEGINS. Each datum BY PROGRAM (the guide's laid-datum.mjs) off the statement by which the dump's own 'gosem.cut.vars' lays the variable. In a bare row this is a premise. The card (YtnooikjkjcflbabDoorCards.lean) ties it to the program's text. -/
def laid_mimesis_inst_names {H : Type} : DataW H := .agg [.lit (.string [105, 108, 108, 101, 103, 97, 108]), .lit (.string [108, 117, 105]), .lit (.string [97, 117, 105, 112, 99]), .lit (.string [106, 97, 108]), .lit (.string [106, 97, 108, 114]), .lit (.string [98, 101, 113]), .lit (.string [98, 110, 101]), .lit (.string [98, 108, 116]), .lit (.string [98, 103, 101]), .lit (.string [98, 108, 116, 117]), .lit (.string [98, 103, 101, 117]), .lit (.string [108, 98]), .lit (.string [108, 104]), .lit (.string [108, 119]), .lit (.string [108, 98, 117]), .lit (.string [108, 104, 117]), .lit (.string [115, 98]), .lit (.string [115, 104]), .lit (.string [115, 119]), .lit (.string [97, 100, 100, 105]), .lit (.string [115, 108, 116, 105]), .lit (.string [115, 108, 116, 105, 117]), .lit (.string [120, 111, 114, 105]), .lit (.string [111, 114, 105]), .lit (.string [97, 110, 100, 105]), .lit (.string [115, 108, 108, 105]), .lit (.string [115, 114, 108, 105]), .lit (.string [115, 114, 97, 105]), .lit (.string [97, 100, 100]), .lit (.string [115, 117, 98]), .lit (.string [115, 108, 108]), .lit (.string [115, 108, 116]), .lit (.string [115, 108, 116, 117]), .lit (.string [120, 111, 114]), .lit (.string [115, 114, 108]), .lit (.string [115, 114, 97]), .lit (.string [111, 114]), .lit (.string [97, 110, 100]), .lit (.string [102, 101, 110, 99, 101]), .lit (.string [102, 101, 110, 99, 101, 46, 105]), .lit (.string [101, 99, 97, 108, 108]), .lit (.string [101, 98, 114, 101, 97, 107]), .lit (.string [99, 115, 114, 114, 119]), .lit (.string [99, 115, 114, 114, 115]), .lit (.string [99, 115, 114, 114, 99]), .lit (.string [99, 115, 114, 114, 119, 105]), .lit (.string [99, 115, 114, 114, 115, 105]), .lit (.string [99, 115, 114, 114, 99, 105]), .lit (.string [109, 114, 101, 116]), .lit (.string [119, 102, 105]), .lit (.string [109, 117, 108]), .lit (.string [109, 117, 108, 104]), .lit (.string [109, 117, 108, 104, 115, 117]), .lit (.string [109, 117, 108, 104, 117]), .lit (.string [100, 105, 118]), .lit (.string [100, 105, 118, 117]), .lit (.string [114, 101, 109]), .lit (.string [114, 101, 109, 117])]
def laid_mimesis_inst_forms {H : Type} : DataW H := .agg [.lit (.int .i64 0), .lit (.int .i64 1), .lit (.int .i64 1), .lit (.int .i64 2), .lit (.int .i64 3), .lit (.int .i64 4), .lit (.int .i64 4), .lit (.int .i64 4), .lit (.int .i64 4), .lit (.int .i64 4), .lit (.int .i64 4), .lit (.int .i64 3), .lit (.int .i64 3), .lit (.int .i64 3), .lit (.int .i64 3), .lit (.int .i64 3), .lit (.int .i64 5), .lit (.int .i64 5), .lit (.int .i64 5), .lit (.int .i64 3), .lit (.int .i64 3), .lit (.int .i64 3), .lit (.int .i64 3), .lit (.int .i64 3), .lit (.int .i64 3), .lit (.int .i64 7), .lit (.int .i64 7), .lit (.int .i64 7), .lit (.int .i64 6), .lit (.int .i64 6), .lit (.int .i64 6), .lit (.int .i64 6), .lit (.int .i64 6), .lit (.int .i64 6), .lit (.int .i64 6), .lit (.int .i64 6), .lit (.int .i64 6), .lit (.int .i64 6), .lit (.int .i64 3), .lit (.int .i64 3), .lit (.int .i64 0), .lit (.int .i64 0), .lit (.int .i64 8), .lit (.int .i64 8), .lit (.int .i64 8), .lit (.int .i64 9), .lit (.int .i64 9), .lit (.int .i64 9), .lit (.int .i64 0), .lit (.int .i64 0), .lit (.int .i64 6), .lit (.int .i64 6), .lit (.int .i64 6), .lit (.int .i64 6), .lit (.int .i64 6), .lit (.int .i64 6), .lit (.int .i64 6), .lit (.int .i64 6)]
def laid_mimesis_encode_matches {H : Type} : DataW H := .agg [.lit (.int .u32 0), .lit (.int .u32 55), .lit (.int .u32 23), .lit (.int .u32 111), .lit (.int .u32 103), .lit (.int .u32 99), .lit (.int .u32 4195), .lit (.int .u32 16483), .lit (.int .u32 20579), .lit (.int .u32 24675), .lit (.int .u32 28771), .lit (.int .u32 3), .lit (.int .u32 4099), .lit (.int .u32 8195), .lit (.int .u32 16387), .lit (.int .u32 20483), .lit (.int .u32 35), .lit (.int .u32 4131), .lit (.int .u32 8227), .lit (.int .u32 19), .lit (.int .u32 8211), .lit (.int .u32 12307), .lit (.int .u32 16403), .lit (.int .u32 24595), .lit (.int .u32 28691), .lit (.int .u32 4115), .lit (.int .u32 20499), .lit (.int .u32 1073762323), .lit (.int .u32 51), .lit (.int .u32 1073741875), .lit (.int .u32 4147), .lit (.int .u32 8243), .lit (.int .u32 12339), .lit (.int .u32 16435), .lit (.int .u32 20531), .lit (.int .u32 1073762355), .lit (.int .u32 24627), .lit (.int .u32 28723), .lit (.int .u32 15), .lit (.int .u32 4111), .lit (.int .u32 115), .lit (.int .u32 1048691), .lit (.int .u32 4211), .lit (.int .u32 8307), .lit (.int .u32 12403), .lit (.int .u32 20595), .lit (.int .u32 24691), .lit (.int .u32 28787), .lit (.int .u32 807403635), .lit (.int .u32 273678451), .lit (.int .u32 33554483), .lit (.int .u32 33558579), .lit (.int .u32 33562675), .lit (.int .u32 33566771), .lit (.int .u32 33570867), .lit (.int .u32 33574963), .lit (.int .u32 33579059), .lit (.int .u32 33583155)]
def laid_mimesis_mask_rows {H : Type} : DataW H := .agg [.agg [.lit (.int .i64 768), .lit (.string [109, 115, 116, 97, 116, 117, 115]), .lit (.int .u32 136), .lit (.int .u32 6144)], .agg [.lit (.int .i64 769), .lit (.string [109, 105, 115, 97]), .lit (.int .u32 0), .lit (.int .u32 1073746176)], .agg [.lit (.int .i64 772), .lit (.string [109, 105, 101]), .lit (.int .u32 2184), .lit (.int .u32 0)], .agg [.lit (.int .i64 773), .lit (.string [109, 116, 118, 101, 99]), .lit (.int .u32 4294967293), .lit (.int .u32 0)], .agg [.lit (.int .i64 832), .lit (.string [109, 115, 99, 114, 97, 116, 99, 104]), .lit (.int .u32 4294967295), .lit (.int .u32 0)], .agg [.lit (.int .i64 833), .lit (.string [109, 101, 112, 99]), .lit (.int .u32 4294967292), .lit (.int .u32 0)], .agg [.lit (.int .i64 834), .lit (.string [109, 99, 97, 117, 115, 101]), .lit (.int .u32 4294967295), .lit (.int .u32 0)], .agg [.lit (.int .i64 835), .lit (.string [109, 116, 118, 97, 108]), .lit (.int .u32 4294967295), .lit (.int .u32 0)], .agg [.lit (.int .i64 836), .lit (.string [109, 105, 112]), .lit (.int .u32 0), .lit (.int .u32 0)], .agg [.lit (.int .i64 2816), .lit (.string [109, 99, 121, 99, 108, 101]), .lit (.int .u32 4294967295), .lit (.int .u32 0)], .agg [.lit (.int .i64 2818), .lit (.string [109, 105, 110, 115, 116, 114, 101, 116]), .lit (.int .u32 4294967295), .lit (.int .u32 0)], .agg [.lit (.int .i64 2944), .lit (.string [109, 99, 121, 99, 108, 101, 104]), .lit (.int .u32 4294967295), .lit (.int .u32 0)], .agg [.lit (.int .i64 2946), .lit (.string [109, 105, 110, 115, 116, 114, 101, 116, 104]), .lit (.int .u32 4294967295), .lit (.int .u32 0)], .agg [.lit (.int .i64 3072), .lit (.string [99, 121, 99, 108, 101]), .lit (.int .u32 0), .lit (.int .u32 0)], .agg [.lit (.int .i64 3073), .lit (.string [116, 105, 109, 101]), .lit (.int .u32 0), .lit (.int .u32 0)], .agg [.lit (.int .i64 3074), .lit (.string [105, 110, 115, 116, 114, 101, 116]), .lit (.int .u32 0), .lit (.int .u32 0)], .agg [.lit (.int .i64 3200), .lit (.string [99, 121, 99, 108, 101, 104]), .lit (.int .u32 0), .lit (.int .u32 0)], .agg [.lit (.int .i64 3201), .lit (.string [116, 105, 109, 101, 104]), .lit (.int .u32 0), .lit (.int .u32 0)], .agg [.lit (.int .i64 3202), .lit (.string [105, 110, 115, 116, 114, 101, 116, 104]), .lit (.int .u32 0), .lit (.int .u32 0)], .agg [.lit (.int .i64 3857), .lit (.string [109, 118, 101, 110, 100, 111, 114, 105, 100]), .lit (.int .u32 0), .lit (.int .u32 0)], .agg [.lit (.int .i64 3858), .lit (.string [109, 97, 114, 99, 104, 105, 100]), .lit (.int .u32 0), .lit (.int .u32 0)], .agg [.lit (.int .i64 3859), .lit (.string [109, 105, 109, 112, 105, 100]), .lit (.int .u32 0), .lit (.int .u32 0)], .agg [.lit (.int .i64 3860), .lit (.string [109, 104, 97, 114, 116, 105, 100]), .lit (.int .u32 0), .lit (.int .u32 0)]]

/-- 'mimesislaw02.InstUses': WHATEVER THE INPUT: true; the input reads as it did. -/
def instUsesSpec : ChangeSpec := { name := "instUses", fn := fun _ => fun
  | [d] => { results := [.lit (.bool true)], args := [d] }
  | _ => none }
def instUsesRow : OpenClaim := { program := "ytnooikjkjcflbabdoor", sum := "0a35e9b5f8de2c17cb1cf1d22ad64445368e8443564e61ae51e47331e939cdc2", func := "mimesis/mimesislaw02.InstUses", spec := "instUses", named := ["mimesis/inst.forms", "mimesis/inst.names"], apart := false, laid := [("mimesis/inst.names", laid_mimesis_inst_names), ("mimesis/inst.forms", laid_mimesis_inst_forms)] }
def InstUsesSaid : Prop := instUsesRow.holds Tryd.pinned (OpenSpec.ofChange instUsesSpec)

/-- ITS FALSE NEIGHBOUR: 'it returns false'. Refute it at one input. -/
def instUsesWrong : ChangeSpec := { name := "instUses", fn := fun _ => fun
  | [d] => { results := [.lit (.bool false)], args := [d] }
  | _ => none }
def InstUsesWrongFalsely : Prop := instUsesRow.holds Tryd.pinned (OpenSpec.ofChange instUsesWrong)

/-- 'mimesislaw02.InstKinds': WHATEVER THE INPUT: true; the input reads as it did. -/
def instKindsSpec : ChangeSpec := { name := "instKinds", fn := fun _ => fun
  | [d] => { results := [.lit (.bool true)], args := [d] }
  | _ => none }
def instKindsRow : OpenClaim := { program := "ytnooikjkjcflbabdoor", sum := "0a35e9b5f8de2c17cb1cf1d22ad64445368e8443564e61ae51e47331e939cdc2", func := "mimesis/mimesislaw02.InstKinds", spec := "instKinds", named := ["mimesis/inst.names", "mimesis/inst.forms"], apart := false, laid := [("mimesis/inst.names", laid_mimesis_inst_names), ("mimesis/inst.forms", laid_mimesis_inst_forms)] }
def InstKindsSaid : Prop := instKindsRow.holds Tryd.pinned (OpenSpec.ofChange instKindsSpec)

/-- ITS FALSE NEIGHBOUR: 'it returns false'. Refute it at one input. -/
def instKindsWrong : ChangeSpec := { name := "instKinds", fn := fun _ => fun
  | [d] => { results := [.lit (.bool false)], args := [d] }
  | _ => none }
def InstKindsWrongFalsely : Prop := instKindsRow.holds Tryd.pinned (OpenSpec.ofChange instKindsWrong)

/-- 'mimesislaw04.EncodeWords': WHATEVER THE INPUT: true; the input reads as it did. -/
def encodeWordsSpec : ChangeSpec := { name := "encodeWords", fn := fun _ => fun
  | [d] => { results := [.lit (.bool true)], args := [d] }
  | _ => none }
def encodeWordsRow : OpenClaim := { program := "ytnooikjkjcflbabdoor", sum := "0a35e9b5f8de2c17cb1cf1d22ad64445368e8443564e61ae51e47331e939cdc2", func := "mimesis/mimesislaw04.EncodeWords", spec := "encodeWords", unfollowed := true, recurses := true, named := ["mimesis/encode.matches", "mimesis/inst.forms"], apart := false, laid := [("mimesis/inst.forms", laid_mimesis_inst_forms), ("mimesis/encode.matches", laid_mimesis_encode_matches)] }
def EncodeWordsSaid : Prop := encodeWordsRow.holds Tryd.pinned (OpenSpec.ofChange encodeWordsSpec)

/-- ITS FALSE NEIGHBOUR: 'it returns false'. Refute it at one input. -/
def encodeWordsWrong : ChangeSpec := { name := "encodeWords", fn := fun _ => fun
  | [d] => { results := [.lit (.bool false)], args := [d] }
  | _ => none }
def EncodeWordsWrongFalsely : Prop := encodeWordsRow.holds Tryd.pinned (OpenSpec.ofChange encodeWordsWrong)

/-- 'mimesislaw16.CsrWrites': WHATEVER THE INPUT: true; the input reads as it did. -/
def csrWritesSpec : ChangeSpec := { name := "csrWrites", fn := fun _ => fun
  | [d1, d2, d3] => { results := [.lit (.bool true)], args := [d1, d2, d3] }
  | _ => none }
def csrWritesRow : OpenClaim := { program := "ytnooikjkjcflbabdoor", sum := "0a35e9b5f8de2c17cb1cf1d22ad64445368e8443564e61ae51e47331e939cdc2", func := "mimesis/mimesislaw16.CsrWrites", spec := "csrWrites", unfollowed := true, recurses := true, named := ["mimesis/mask.rows"], apart := false, laid := [("mimesis/mask.rows", laid_mimesis_mask_rows)] }
def CsrWritesSaid : Prop := csrWritesRow.holds Tryd.pinned (OpenSpec.ofChange csrWritesSpec)

/-- ITS FALSE NEIGHBOUR: 'it returns false'. Refute it at one input. -/
def csrWritesWrong : ChangeSpec := { name := "csrWrites", fn := fun _ => fun
  | [d1, d2, d3] => { results := [.lit (.bool false)], args := [d1, d2, d3] }
  | _ => none }
def CsrWritesWrongFalsely : Prop := csrWritesRow.holds Tryd.pinned (OpenSpec.ofChange csrWritesWrong)

/-- 'mimesislaw04.EncodeConstants': WHATEVER THE INPUT: true; the input reads as it did. -/
def encodeConstantsSpec : ChangeSpec := { name := "encodeConstants", fn := fun _ => fun
  | [d1, d2] => { results := [.lit (.bool true)], args := [d1, d2] }
  | _ => none }
def encodeConstantsRow : OpenClaim := { program := "ytnooikjkjcflbabdoor", sum := "0a35e9b5f8de2c17cb1cf1d22ad64445368e8443564e61ae51e47331e939cdc2", func := "mimesis/mimesislaw04.EncodeConstants", spec := "encodeConstants", unfollowed := true, recurses := true, named := ["mimesis/encode.matches", "mimesis/inst.forms"], apart := false, laid := [("mimesis/inst.forms", laid_mimesis_inst_forms), ("mimesis/encode.matches", laid_mimesis_encode_matches)] }
def EncodeConstantsSaid : Prop := encodeConstantsRow.holds Tryd.pinned (OpenSpec.ofChange encodeConstantsSpec)

/-- ITS FALSE NEIGHBOUR: 'it returns false'. Refute it at one input. -/
def encodeConstantsWrong : ChangeSpec := { name := "encodeConstants", fn := fun _ => fun
  | [d1, d2] => { results := [.lit (.bool false)], args := [d1, d2] }
  | _ => none }
def EncodeConstantsWrongFalsely : Prop := encodeConstantsRow.holds Tryd.pinned (OpenSpec.ofChange encodeConstantsWrong)

/-- 'mimesislaw04.EncodeLists': WHATEVER THE INPUT: true; the input reads as it did. -/
def encodeListsSpec : ChangeSpec := { name := "encodeLists", fn := fun _ => fun
  | [d] => { results := [.lit (.bool true)], args := [d] }
  | _ => none }
def encodeListsRow : OpenClaim := { program := "ytnooikjkjcflbabdoor", sum := "0a35e9b5f8de2c17cb1cf1d22ad64445368e8443564e61ae51e47331e939cdc2", func := "mimesis/mimesislaw04.EncodeLists", spec := "encodeLists", unfollowed := true, recurses := true, named := ["mimesis/encode.matches", "mimesis/inst.forms"], apart := false, laid := [("mimesis/inst.forms", laid_mimesis_inst_forms), ("mimesis/encode.matches", laid_mimesis_encode_matches)] }
def EncodeListsSaid : Prop := encodeListsRow.holds Tryd.pinned (OpenSpec.ofChange encodeListsSpec)

/-- ITS FALSE NEIGHBOUR: 'it returns false'. Refute it at one input. -/
def encodeListsWrong : ChangeSpec := { name := "encodeLists", fn := fun _ => fun
  | [d] => { results := [.lit (.bool false)], args := [d] }
  | _ => none }
def EncodeListsWrongFalsely : Prop := encodeListsRow.holds Tryd.pinned (OpenSpec.ofChange encodeListsWrong)

/-- 'mimesislaw03.DecodeWords': WHATEVER THE INPUT: true; the input reads as it did. -/
def decodeWordsSpec : ChangeSpec := { name := "decodeWords", fn := fun _ => fun
  | [d] => { results := [.lit (.bool true)], args := [d] }
  | _ => none }
def decodeWordsRow : OpenClaim := { program := "ytnooikjkjcflbabdoor", sum := "0a35e9b5f8de2c17cb1cf1d22ad64445368e8443564e61ae51e47331e939cdc2", func := "mimesis/mimesislaw03.DecodeWords", spec := "decodeWords", named := ["mimesis/inst.forms"], apart := false, laid := [("mimesis/inst.forms", laid_mimesis_inst_forms)] }
def DecodeWordsSaid : Prop := decodeWordsRow.holds Tryd.pinned (OpenSpec.ofChange decodeWordsSpec)

/-- ITS FALSE NEIGHBOUR: 'it returns false'. Refute it at one input. -/
def decodeWordsWrong : ChangeSpec := { name := "decodeWords", fn := fun _ => fun
  | [d] => { results := [.lit (.bool false)], args := [d] }
  | _ => none }
def DecodeWordsWrongFalsely : Prop := decodeWordsRow.holds Tryd.pinned (OpenSpec.ofChange decodeWordsWrong)

/-- 'mimesislaw03.DecodeRight': WHATEVER THE INPUT: true; the input reads as it did. -/
def decodeRightSpec : ChangeSpec := { name := "decodeRight", fn := fun _ => fun
  | [d] => { results := [.lit (.bool true)], args := [d] }
  | _ => none }
def decodeRightRow : OpenClaim := { program := "ytnooikjkjcflbabdoor", sum := "0a35e9b5f8de2c17cb1cf1d22ad64445368e8443564e61ae51e47331e939cdc2", func := "mimesis/mimesislaw03.DecodeRight", spec := "decodeRight", named := ["mimesis/inst.forms"], apart := false, laid := [("mimesis/inst.forms", laid_mimesis_inst_forms)] }
def DecodeRightSaid : Prop := decodeRightRow.holds Tryd.pinned (OpenSpec.ofChange decodeRightSpec)

/-- ITS FALSE NEIGHBOUR: 'it returns false'. Refute it at one input. -/
def decodeRightWrong : ChangeSpec := { name := "decodeRight", fn := fun _ => fun
  | [d] => { results := [.lit (.bool false)], args := [d] }
  | _ => none }
def DecodeRightWrongFalsely : Prop := decodeRightRow.holds Tryd.pinned (OpenSpec.ofChange decodeRightWrong)

/- THE SECOND FORM. 'bulk': how many values and letters a reading holds, each counted each time it is reached (what is shared counts as often as it is met; a slice's spare places count too). A statement '..UptoSaid' is the law's where the arguments, and the package variables that the reading takes, are together of bulk at most 1048576: NARROWER than '..Said'. Prove '..Said' where nothing that the law and all that it calls make is longer than what came in: it says more and counts as full. Else prove '..UptoSaid'. A law counts once. -/
mutual
def uptoBulk {H : Type} : DataW H → Nat
  | .lit (.string bytes) => bytes.length + 1
  | .lit _ => 1
  | .nil => 1
  | .ptr d => uptoBulk d + 1
  | .slice elems spare => uptoBulkAll elems + uptoBulkAll spare + 1
  | .agg parts => uptoBulkAll parts + 1
  | .iface _ d => uptoBulk d + 1
  | .map entries => uptoBulkEntries entries + 1
  | .held _ => 1
def uptoBulkAll {H : Type} : List (DataW H) → Nat
  | [] => 0
  | d :: r => uptoBulk d + uptoBulkAll r
def uptoBulkEntries {H : Type} : List (Lit × DataW H) → Nat
  | [] => 0
  | x :: r => uptoBulkEntry x + uptoBulkEntries r
def uptoBulkEntry {H : Type} : Lit × DataW H → Nat
  | (.string bytes, d) => bytes.length + uptoBulk d + 1
  | (_, d) => uptoBulk d + 1
 end
def uptoSmall : (H : Type) → List (DataW H) → Bool := fun _ ds => decide (uptoBulkAll ds ≤ 1048576)
def OpenSpec.upto (s : _root_.Go.ChangeSpec) : _root_.Go.OpenSpec := { _root_.Go.OpenSpec.ofChange s with cond := some uptoSmall }

/-- 'mimesislaw02.InstUses', WHERE WHAT IT READS IS OF BULK AT MOST 1048576: true; the input reads as it did. -/
def instUsesUptoRow : OpenClaim := { program := "ytnooikjkjcflbabdoor", sum := "0a35e9b5f8de2c17cb1cf1d22ad64445368e8443564e61ae51e47331e939cdc2", func := "mimesis/mimesislaw02.InstUses", spec := "instUses", named := ["mimesis/inst.forms", "mimesis/inst.names"], apart := false, laid := [("mimesis/inst.names", laid_mimesis_inst_names), ("mimesis/inst.forms", laid_mimesis_inst_forms)], narrowed := true }
def InstUsesUptoSaid : Prop := instUsesUptoRow.holds Tryd.pinned (OpenSpec.upto instUsesSpec)

/-- 'mimesislaw02.InstKinds', WHERE WHAT IT READS IS OF BULK AT MOST 1048576: true; the input reads as it did. -/
def instKindsUptoRow : OpenClaim := { program := "ytnooikjkjcflbabdoor", sum := "0a35e9b5f8de2c17cb1cf1d22ad64445368e8443564e61ae51e47331e939cdc2", func := "mimesis/mimesislaw02.InstKinds", spec := "instKinds", named := ["mimesis/inst.names", "mimesis/inst.forms"], apart := false, laid := [("mimesis/inst.names", laid_mimesis_inst_names), ("mimesis/inst.forms", laid_mimesis_inst_forms)], narrowed := true }
def InstKindsUptoSaid : Prop := instKindsUptoRow.holds Tryd.pinned (OpenSpec.upto instKindsSpec)

/-- 'mimesislaw04.EncodeWords', WHERE WHAT IT READS IS OF BULK AT MOST 1048576: true; the input reads as it did. -/
def encodeWordsUptoRow : OpenClaim := { program := "ytnooikjkjcflbabdoor", sum := "0a35e9b5f8de2c17cb1cf1d22ad64445368e8443564e61ae51e47331e939cdc2", func := "mimesis/mimesislaw04.EncodeWords", spec := "encodeWords", unfollowed := true, recurses := true, named := ["mimesis/encode.matches", "mimesis/inst.forms"], apart := false, laid := [("mimesis/inst.forms", laid_mimesis_inst_forms), ("mimesis/encode.matches", laid_mimesis_encode_matches)], narrowed := true }
def EncodeWordsUptoSaid : Prop := encodeWordsUptoRow.holds Tryd.pinned (OpenSpec.upto encodeWordsSpec)

/-- 'mimesislaw16.CsrWrites', WHERE WHAT IT READS IS OF BULK AT MOST 1048576: true; the input reads as it did. -/
def csrWritesUptoRow : OpenClaim := { program := "ytnooikjkjcflbabdoor", sum := "0a35e9b5f8de2c17cb1cf1d22ad64445368e8443564e61ae51e47331e939cdc2", func := "mimesis/mimesislaw16.CsrWrites", spec := "csrWrites", unfollowed := true, recurses := true, named := ["mimesis/mask.rows"], apart := false, laid := [("mimesis/mask.rows", laid_mimesis_mask_rows)], narrowed := true }
def CsrWritesUptoSaid : Prop := csrWritesUptoRow.holds Tryd.pinned (OpenSpec.upto csrWritesSpec)

/-- 'mimesislaw04.EncodeConstants', WHERE WHAT IT READS IS OF BULK AT MOST 1048576: true; the input reads as it did. -/
def encodeConstantsUptoRow : OpenClaim := { program := "ytnooikjkjcflbabdoor", sum := "0a35e9b5f8de2c17cb1cf1d22ad64445368e8443564e61ae51e47331e939cdc2", func := "mimesis/mimesislaw04.EncodeConstants", spec := "encodeConstants", unfollowed := true, recurses := true, named := ["mimesis/encode.matches", "mimesis/inst.forms"], apart := false, laid := [("mimesis/inst.forms", laid_mimesis_inst_forms), ("mimesis/encode.matches", laid_mimesis_encode_matches)], narrowed := true }
def EncodeConstantsUptoSaid : Prop := encodeConstantsUptoRow.holds Tryd.pinned (OpenSpec.upto encodeConstantsSpec)

/-- 'mimesislaw04.EncodeLists', WHERE WHAT IT READS IS OF BULK AT MOST 1048576: true; the input reads as it did. -/
def encodeListsUptoRow : OpenClaim := { program := "ytnooikjkjcflbabdoor", sum := "0a35e9b5f8de2c17cb1cf1d22ad64445368e8443564e61ae51e47331e939cdc2", func := "mimesis/mimesislaw04.EncodeLists", spec := "encodeLists", unfollowed := true, recurses := true, named := ["mimesis/encode.matches", "mimesis/inst.forms"], apart := false, laid := [("mimesis/inst.forms", laid_mimesis_inst_forms), ("mimesis/encode.matches", laid_mimesis_encode_matches)], narrowed := true }
def EncodeListsUptoSaid : Prop := encodeListsUptoRow.holds Tryd.pinned (OpenSpec.upto encodeListsSpec)

/-- 'mimesislaw03.DecodeWords', WHERE WHAT IT READS IS OF BULK AT MOST 1048576: true; the input reads as it did. -/
def decodeWordsUptoRow : OpenClaim := { program := "ytnooikjkjcflbabdoor", sum := "0a35e9b5f8de2c17cb1cf1d22ad64445368e8443564e61ae51e47331e939cdc2", func := "mimesis/mimesislaw03.DecodeWords", spec := "decodeWords", named := ["mimesis/inst.forms"], apart := false, laid := [("mimesis/inst.forms", laid_mimesis_inst_forms)], narrowed := true }
def DecodeWordsUptoSaid : Prop := decodeWordsUptoRow.holds Tryd.pinned (OpenSpec.upto decodeWordsSpec)

/-- 'mimesislaw03.DecodeRight', WHERE WHAT IT READS IS OF BULK AT MOST 1048576: true; the input reads as it did. -/
def decodeRightUptoRow : OpenClaim := { program := "ytnooikjkjcflbabdoor", sum := "0a35e9b5f8de2c17cb1cf1d22ad64445368e8443564e61ae51e47331e939cdc2", func := "mimesis/mimesislaw03.DecodeRight", spec := "decodeRight", named := ["mimesis/inst.forms"], apart := false, laid := [("mimesis/inst.forms", laid_mimesis_inst_forms)], narrowed := true }
def DecodeRightUptoSaid : Prop := decodeRightUptoRow.holds Tryd.pinned (OpenSpec.upto decodeRightSpec)

end Rows
end Go.Proofs.YtnooikjkjcflbabDoor
