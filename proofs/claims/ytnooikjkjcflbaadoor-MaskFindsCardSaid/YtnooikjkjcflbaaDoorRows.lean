/-
  NARROWER THAN 'FOR EVERY INPUT', by the rows' own cells (each row's printed sentence says how): MaskFinds: laid · MaskLegal: laid · MaskNames: laid · MaskWrites: laid · CsrReads: laid · InstNames: laid · InstOps: laid · InstRight: laid.
  DERIVED. THE GIVEN ROWS OF THIS SEAT. 8 by the template 'for every input the law returns true; each argument reads behind the call as it read before'; 0 by the template 'total and deterministic' (their statements: YtnooikjkjcflbaaDoorTotals.lean).
  GIVEN WITH THE SEED: the statements are not yours to turn. If you find one false, say at which input.
  Laid BY PROGRAM, IN A SANDBOX (cutbox-rows.mjs): the forced cells as the released guide's own fill.sh prints them over the translation 48a8e09c94447e1d… (all of the seat's roots in one cut). By AI agents, Wed Nov 11 2026. No macro, syntax, notation, axiom, sorry.
-/
import Derived.Test.YtnooikjkjcflbaaDoorChecked
import GoSem.Claim
import GoSem.ClaimJoined
import GoSem.ClaimMapViews
import Derived.JoinedTies
import Derived.KernelRfl
namespace Go.Proofs.YtnooikjkjcflbaaDoor
/- THE CELL 'sum', in the pinned program and in every row, IS THE sha256 OF THE DUMP (.gsa) THAT YtnooikjkjcflbaaDoorProg.lean LOADS. Nothing in Lean hashes anything: it is a label: what it is worth is what the hold of that sum in a sandbox is worth. -/
noncomputable def Tryd.pinned : Pinned := { name := "ytnooikjkjcflbaadoor", sum := "48a8e09c94447e1dbe8d86ea71bd352c953fbfcbb89671875c0eba4065f4fde9", checked := Tryd.checked }
namespace Rows
def none {H : Type} : Left H := { results := [], args := [] }

/- WHAT THE LISTED PACKAGE-LEVEL VARIABLES READ AS WHEN THE CALL BEGINS. Each datum BY PROGRAM (the guide's laid-datum.mjs) off the statement by which the dump's own 'gosem.cut.vars' lays the variable. In a bare row this is a premise. The card (YtnooikjkjcflbaaDoorCards.lean) ties it to the program's text. -/
def laid_mimesis_mask_rows {H : Type} : DataW H := .agg [.agg [.lit (.int .i64 768), .lit (.string [109, 115, 116, 97, 116, 117, 115]), .lit (.int .u32 136), .lit (.int .u32 6144)], .agg [.lit (.int .i64 769), .lit (.string [109, 105, 115, 97]), .lit (.int .u32 0), .lit (.int .u32 1073746176)], .agg [.lit (.int .i64 772), .lit (.string [109, 105, 101]), .lit (.int .u32 2184), .lit (.int .u32 0)], .agg [.lit (.int .i64 773), .lit (.string [109, 116, 118, 101, 99]), .lit (.int .u32 4294967293), .lit (.int .u32 0)], .agg [.lit (.int .i64 832), .lit (.string [109, 115, 99, 114, 97, 116, 99, 104]), .lit (.int .u32 4294967295), .lit (.int .u32 0)], .agg [.lit (.int .i64 833), .lit (.string [109, 101, 112, 99]), .lit (.int .u32 4294967292), .lit (.int .u32 0)], .agg [.lit (.int .i64 834), .lit (.string [109, 99, 97, 117, 115, 101]), .lit (.int .u32 4294967295), .lit (.int .u32 0)], .agg [.lit (.int .i64 835), .lit (.string [109, 116, 118, 97, 108]), .lit (.int .u32 4294967295), .lit (.int .u32 0)], .agg [.lit (.int .i64 836), .lit (.string [109, 105, 112]), .lit (.int .u32 0), .lit (.int .u32 0)], .agg [.lit (.int .i64 2816), .lit (.string [109, 99, 121, 99, 108, 101]), .lit (.int .u32 4294967295), .lit (.int .u32 0)], .agg [.lit (.int .i64 2818), .lit (.string [109, 105, 110, 115, 116, 114, 101, 116]), .lit (.int .u32 4294967295), .lit (.int .u32 0)], .agg [.lit (.int .i64 2944), .lit (.string [109, 99, 121, 99, 108, 101, 104]), .lit (.int .u32 4294967295), .lit (.int .u32 0)], .agg [.lit (.int .i64 2946), .lit (.string [109, 105, 110, 115, 116, 114, 101, 116, 104]), .lit (.int .u32 4294967295), .lit (.int .u32 0)], .agg [.lit (.int .i64 3072), .lit (.string [99, 121, 99, 108, 101]), .lit (.int .u32 0), .lit (.int .u32 0)], .agg [.lit (.int .i64 3073), .lit (.string [116, 105, 109, 101]), .lit (.int .u32 0), .lit (.int .u32 0)], .agg [.lit (.int .i64 3074), .lit (.string [105, 110, 115, 116, 114, 101, 116]), .lit (.int .u32 0), .lit (.int .u32 0)], .agg [.lit (.int .i64 3200), .lit (.string [99, 121, 99, 108, 101, 104]), .lit (.int .u32 0), .lit (.int .u32 0)], .agg [.lit (.int .i64 3201), .lit (.string [116, 105, 109, 101, 104]), .lit (.int .u32 0), .lit (.int .u32 0)], .agg [.lit (.int .i64 3202), .lit (.string [105, 110, 115, 116, 114, 101, 116, 104]), .lit (.int .u32 0), .lit (.int .u32 0)], .agg [.lit (.int .i64 3857), .lit (.string [109, 118, 101, 110, 100, 111, 114, 105, 100]), .lit (.int .u32 0), .lit (.int .u32 0)], .agg [.lit (.int .i64 3858), .lit (.string [109, 97, 114, 99, 104, 105, 100]), .lit (.int .u32 0), .lit (.int .u32 0)], .agg [.lit (.int .i64 3859), .lit (.string [109, 105, 109, 112, 105, 100]), .lit (.int .u32 0), .lit (.int .u32 0)], .agg [.lit (.int .i64 3860), .lit (.string [109, 104, 97, 114, 116, 105, 100]), .lit (.int .u32 0), .lit (.int .u32 0)]]
def laid_mimesis_inst_names {H : Type} : DataW H := .agg [.lit (.string [105, 108, 108, 101, 103, 97, 108]), .lit (.string [108, 117, 105]), .lit (.string [97, 117, 105, 112, 99]), .lit (.string [106, 97, 108]), .lit (.string [106, 97, 108, 114]), .lit (.string [98, 101, 113]), .lit (.string [98, 110, 101]), .lit (.string [98, 108, 116]), .lit (.string [98, 103, 101]), .lit (.string [98, 108, 116, 117]), .lit (.string [98, 103, 101, 117]), .lit (.string [108, 98]), .lit (.string [108, 104]), .lit (.string [108, 119]), .lit (.string [108, 98, 117]), .lit (.string [108, 104, 117]), .lit (.string [115, 98]), .lit (.string [115, 104]), .lit (.string [115, 119]), .lit (.string [97, 100, 100, 105]), .lit (.string [115, 108, 116, 105]), .lit (.string [115, 108, 116, 105, 117]), .lit (.string [120, 111, 114, 105]), .lit (.string [111, 114, 105]), .lit (.string [97, 110, 100, 105]), .lit (.string [115, 108, 108, 105]), .lit (.string [115, 114, 108, 105]), .lit (.string [115, 114, 97, 105]), .lit (.string [97, 100, 100]), .lit (.string [115, 117, 98]), .lit (.string [115, 108, 108]), .lit (.string [115, 108, 116]), .lit (.string [115, 108, 116, 117]), .lit (.string [120, 111, 114]), .lit (.string [115, 114, 108]), .lit (.string [115, 114, 97]), .lit (.string [111, 114]), .lit (.string [97, 110, 100]), .lit (.string [102, 101, 110, 99, 101]), .lit (.string [102, 101, 110, 99, 101, 46, 105]), .lit (.string [101, 99, 97, 108, 108]), .lit (.string [101, 98, 114, 101, 97, 107]), .lit (.string [99, 115, 114, 114, 119]), .lit (.string [99, 115, 114, 114, 115]), .lit (.string [99, 115, 114, 114, 99]), .lit (.string [99, 115, 114, 114, 119, 105]), .lit (.string [99, 115, 114, 114, 115, 105]), .lit (.string [99, 115, 114, 114, 99, 105]), .lit (.string [109, 114, 101, 116]), .lit (.string [119, 102, 105]), .lit (.string [109, 117, 108]), .lit (.string [109, 117, 108, 104]), .lit (.string [109, 117, 108, 104, 115, 117]), .lit (.string [109, 117, 108, 104, 117]), .lit (.string [100, 105, 118]), .lit (.string [100, 105, 118, 117]), .lit (.string [114, 101, 109]), .lit (.string [114, 101, 109, 117])]
def laid_mimesis_inst_forms {H : Type} : DataW H := .agg [.lit (.int .i64 0), .lit (.int .i64 1), .lit (.int .i64 1), .lit (.int .i64 2), .lit (.int .i64 3), .lit (.int .i64 4), .lit (.int .i64 4), .lit (.int .i64 4), .lit (.int .i64 4), .lit (.int .i64 4), .lit (.int .i64 4), .lit (.int .i64 3), .lit (.int .i64 3), .lit (.int .i64 3), .lit (.int .i64 3), .lit (.int .i64 3), .lit (.int .i64 5), .lit (.int .i64 5), .lit (.int .i64 5), .lit (.int .i64 3), .lit (.int .i64 3), .lit (.int .i64 3), .lit (.int .i64 3), .lit (.int .i64 3), .lit (.int .i64 3), .lit (.int .i64 7), .lit (.int .i64 7), .lit (.int .i64 7), .lit (.int .i64 6), .lit (.int .i64 6), .lit (.int .i64 6), .lit (.int .i64 6), .lit (.int .i64 6), .lit (.int .i64 6), .lit (.int .i64 6), .lit (.int .i64 6), .lit (.int .i64 6), .lit (.int .i64 6), .lit (.int .i64 3), .lit (.int .i64 3), .lit (.int .i64 0), .lit (.int .i64 0), .lit (.int .i64 8), .lit (.int .i64 8), .lit (.int .i64 8), .lit (.int .i64 9), .lit (.int .i64 9), .lit (.int .i64 9), .lit (.int .i64 0), .lit (.int .i64 0), .lit (.int .i64 6), .lit (.int .i64 6), .lit (.int .i64 6), .lit (.int .i64 6), .lit (.int .i64 6), .lit (.int .i64 6), .lit (.int .i64 6), .lit (.int .i64 6)]

/-- 'mimesislaw09.MaskFinds': WHATEVER THE INPUT: true; the input reads as it did. -/
def maskFindsSpec : ChangeSpec := { name := "maskFinds", fn := fun _ => fun
  | [d] => { results := [.lit (.bool true)], args := [d] }
  | _ => none }
def maskFindsRow : OpenClaim := { program := "ytnooikjkjcflbaadoor", sum := "48a8e09c94447e1dbe8d86ea71bd352c953fbfcbb89671875c0eba4065f4fde9", func := "mimesis/mimesislaw09.MaskFinds", spec := "maskFinds", unfollowed := true, recurses := true, named := ["mimesis/mask.rows"], apart := false, laid := [("mimesis/mask.rows", laid_mimesis_mask_rows)] }
def MaskFindsSaid : Prop := maskFindsRow.holds Tryd.pinned (OpenSpec.ofChange maskFindsSpec)

/-- ITS FALSE NEIGHBOUR: 'it returns false'. Refute it at one input. -/
def maskFindsWrong : ChangeSpec := { name := "maskFinds", fn := fun _ => fun
  | [d] => { results := [.lit (.bool false)], args := [d] }
  | _ => none }
def MaskFindsWrongFalsely : Prop := maskFindsRow.holds Tryd.pinned (OpenSpec.ofChange maskFindsWrong)

/-- 'mimesislaw09.MaskLegal': WHATEVER THE INPUT: true; the input reads as it did. -/
def maskLegalSpec : ChangeSpec := { name := "maskLegal", fn := fun _ => fun
  | [d1, d2] => { results := [.lit (.bool true)], args := [d1, d2] }
  | _ => none }
def maskLegalRow : OpenClaim := { program := "ytnooikjkjcflbaadoor", sum := "48a8e09c94447e1dbe8d86ea71bd352c953fbfcbb89671875c0eba4065f4fde9", func := "mimesis/mimesislaw09.MaskLegal", spec := "maskLegal", unfollowed := true, recurses := true, named := ["mimesis/mask.rows"], apart := false, laid := [("mimesis/mask.rows", laid_mimesis_mask_rows)] }
def MaskLegalSaid : Prop := maskLegalRow.holds Tryd.pinned (OpenSpec.ofChange maskLegalSpec)

/-- ITS FALSE NEIGHBOUR: 'it returns false'. Refute it at one input. -/
def maskLegalWrong : ChangeSpec := { name := "maskLegal", fn := fun _ => fun
  | [d1, d2] => { results := [.lit (.bool false)], args := [d1, d2] }
  | _ => none }
def MaskLegalWrongFalsely : Prop := maskLegalRow.holds Tryd.pinned (OpenSpec.ofChange maskLegalWrong)

/-- 'mimesislaw09.MaskNames': WHATEVER THE INPUT: true; the input reads as it did. -/
def maskNamesSpec : ChangeSpec := { name := "maskNames", fn := fun _ => fun
  | [d] => { results := [.lit (.bool true)], args := [d] }
  | _ => none }
def maskNamesRow : OpenClaim := { program := "ytnooikjkjcflbaadoor", sum := "48a8e09c94447e1dbe8d86ea71bd352c953fbfcbb89671875c0eba4065f4fde9", func := "mimesis/mimesislaw09.MaskNames", spec := "maskNames", unfollowed := true, recurses := true, named := ["mimesis/mask.rows"], apart := false, laid := [("mimesis/mask.rows", laid_mimesis_mask_rows)] }
def MaskNamesSaid : Prop := maskNamesRow.holds Tryd.pinned (OpenSpec.ofChange maskNamesSpec)

/-- ITS FALSE NEIGHBOUR: 'it returns false'. Refute it at one input. -/
def maskNamesWrong : ChangeSpec := { name := "maskNames", fn := fun _ => fun
  | [d] => { results := [.lit (.bool false)], args := [d] }
  | _ => none }
def MaskNamesWrongFalsely : Prop := maskNamesRow.holds Tryd.pinned (OpenSpec.ofChange maskNamesWrong)

/-- 'mimesislaw09.MaskWrites': WHATEVER THE INPUT: true; the input reads as it did. -/
def maskWritesSpec : ChangeSpec := { name := "maskWrites", fn := fun _ => fun
  | [d1, d2, d3] => { results := [.lit (.bool true)], args := [d1, d2, d3] }
  | _ => none }
def maskWritesRow : OpenClaim := { program := "ytnooikjkjcflbaadoor", sum := "48a8e09c94447e1dbe8d86ea71bd352c953fbfcbb89671875c0eba4065f4fde9", func := "mimesis/mimesislaw09.MaskWrites", spec := "maskWrites", unfollowed := true, recurses := true, named := ["mimesis/mask.rows"], apart := false, laid := [("mimesis/mask.rows", laid_mimesis_mask_rows)] }
def MaskWritesSaid : Prop := maskWritesRow.holds Tryd.pinned (OpenSpec.ofChange maskWritesSpec)

/-- ITS FALSE NEIGHBOUR: 'it returns false'. Refute it at one input. -/
def maskWritesWrong : ChangeSpec := { name := "maskWrites", fn := fun _ => fun
  | [d1, d2, d3] => { results := [.lit (.bool false)], args := [d1, d2, d3] }
  | _ => none }
def MaskWritesWrongFalsely : Prop := maskWritesRow.holds Tryd.pinned (OpenSpec.ofChange maskWritesWrong)

/-- 'mimesislaw16.CsrReads': WHATEVER THE INPUT: true; the input reads as it did. -/
def csrReadsSpec : ChangeSpec := { name := "csrReads", fn := fun _ => fun
  | [d1, d2, d3] => { results := [.lit (.bool true)], args := [d1, d2, d3] }
  | _ => none }
def csrReadsRow : OpenClaim := { program := "ytnooikjkjcflbaadoor", sum := "48a8e09c94447e1dbe8d86ea71bd352c953fbfcbb89671875c0eba4065f4fde9", func := "mimesis/mimesislaw16.CsrReads", spec := "csrReads", unfollowed := true, recurses := true, named := ["mimesis/mask.rows"], apart := false, laid := [("mimesis/mask.rows", laid_mimesis_mask_rows)] }
def CsrReadsSaid : Prop := csrReadsRow.holds Tryd.pinned (OpenSpec.ofChange csrReadsSpec)

/-- ITS FALSE NEIGHBOUR: 'it returns false'. Refute it at one input. -/
def csrReadsWrong : ChangeSpec := { name := "csrReads", fn := fun _ => fun
  | [d1, d2, d3] => { results := [.lit (.bool false)], args := [d1, d2, d3] }
  | _ => none }
def CsrReadsWrongFalsely : Prop := csrReadsRow.holds Tryd.pinned (OpenSpec.ofChange csrReadsWrong)

/-- 'mimesislaw02.InstNames': WHATEVER THE INPUT: true; the input reads as it did. -/
def instNamesSpec : ChangeSpec := { name := "instNames", fn := fun _ => fun
  | [d] => { results := [.lit (.bool true)], args := [d] }
  | _ => none }
def instNamesRow : OpenClaim := { program := "ytnooikjkjcflbaadoor", sum := "48a8e09c94447e1dbe8d86ea71bd352c953fbfcbb89671875c0eba4065f4fde9", func := "mimesis/mimesislaw02.InstNames", spec := "instNames", named := ["mimesis/inst.names", "mimesis/inst.forms"], apart := false, laid := [("mimesis/inst.names", laid_mimesis_inst_names), ("mimesis/inst.forms", laid_mimesis_inst_forms)] }
def InstNamesSaid : Prop := instNamesRow.holds Tryd.pinned (OpenSpec.ofChange instNamesSpec)

/-- ITS FALSE NEIGHBOUR: 'it returns false'. Refute it at one input. -/
def instNamesWrong : ChangeSpec := { name := "instNames", fn := fun _ => fun
  | [d] => { results := [.lit (.bool false)], args := [d] }
  | _ => none }
def InstNamesWrongFalsely : Prop := instNamesRow.holds Tryd.pinned (OpenSpec.ofChange instNamesWrong)

/-- 'mimesislaw02.InstOps': WHATEVER THE INPUT: true; the input reads as it did. -/
def instOpsSpec : ChangeSpec := { name := "instOps", fn := fun _ => fun
  | [d] => { results := [.lit (.bool true)], args := [d] }
  | _ => none }
def instOpsRow : OpenClaim := { program := "ytnooikjkjcflbaadoor", sum := "48a8e09c94447e1dbe8d86ea71bd352c953fbfcbb89671875c0eba4065f4fde9", func := "mimesis/mimesislaw02.InstOps", spec := "instOps", named := ["mimesis/inst.names", "mimesis/inst.forms"], apart := false, laid := [("mimesis/inst.names", laid_mimesis_inst_names), ("mimesis/inst.forms", laid_mimesis_inst_forms)] }
def InstOpsSaid : Prop := instOpsRow.holds Tryd.pinned (OpenSpec.ofChange instOpsSpec)

/-- ITS FALSE NEIGHBOUR: 'it returns false'. Refute it at one input. -/
def instOpsWrong : ChangeSpec := { name := "instOps", fn := fun _ => fun
  | [d] => { results := [.lit (.bool false)], args := [d] }
  | _ => none }
def InstOpsWrongFalsely : Prop := instOpsRow.holds Tryd.pinned (OpenSpec.ofChange instOpsWrong)

/-- 'mimesislaw02.InstRight': WHATEVER THE INPUT: true; the input reads as it did. -/
def instRightSpec : ChangeSpec := { name := "instRight", fn := fun _ => fun
  | [d] => { results := [.lit (.bool true)], args := [d] }
  | _ => none }
def instRightRow : OpenClaim := { program := "ytnooikjkjcflbaadoor", sum := "48a8e09c94447e1dbe8d86ea71bd352c953fbfcbb89671875c0eba4065f4fde9", func := "mimesis/mimesislaw02.InstRight", spec := "instRight", named := ["mimesis/inst.forms", "mimesis/inst.names"], apart := false, laid := [("mimesis/inst.names", laid_mimesis_inst_names), ("mimesis/inst.forms", laid_mimesis_inst_forms)] }
def InstRightSaid : Prop := instRightRow.holds Tryd.pinned (OpenSpec.ofChange instRightSpec)

/-- ITS FALSE NEIGHBOUR: 'it returns false'. Refute it at one input. -/
def instRightWrong : ChangeSpec := { name := "instRight", fn := fun _ => fun
  | [d] => { results := [.lit (.bool false)], args := [d] }
  | _ => none }
def InstRightWrongFalsely : Prop := instRightRow.holds Tryd.pinned (OpenSpec.ofChange instRightWrong)

/- THE SECOND FORM. 'bulk': how many values and letters a reading holds, each counted each time it is reached (what is shared counts as often as it is met; a slice's spare places count too). A statement '..UptoSaid' is the law's where the arguments, and the package variables that the reading takes, are together of bulk at most 1048576: NARROWER than '..Said'. Prove '..Said' where nothing that the law and all that it calls make is longer than what came in: it says more and counts as full. Else prove '..UptoSaid'. A law counts once. -/
mutual
def uptoBulk {H : Type} : DataW H → Nat
  | .lit (.string bytes) => bytes.length + 1
  | .lit _ => 1
  | .nil => 1
  | .ptr d => uptoBulk d + 1
  | .slice elems spare => uptoBulkAll elems + uptoBulkAll spare + 1
  | .agg parts => uptoBulkAll parts + 1
  | .iface _ d => uptoBulk d + 1
  | .map entries => uptoBulkEntries entries + 1
  | .held _ => 1
def uptoBulkAll {H : Type} : List (DataW H) → Nat
  | [] => 0
  | d :: r => uptoBulk d + uptoBulkAll r
def uptoBulkEntries {H : Type} : List (Lit × DataW H) → Nat
  | [] => 0
  | x :: r => uptoBulkEntry x + uptoBulkEntries r
def uptoBulkEntry {H : Type} : Lit × DataW H → Nat
  | (.string bytes, d) => bytes.length + uptoBulk d + 1
  | (_, d) => uptoBulk d + 1
 end
def uptoSmall : (H : Type) → List (DataW H) → Bool := fun _ ds => decide (uptoBulkAll ds ≤ 1048576)
def OpenSpec.upto (s : _root_.Go.ChangeSpec) : _root_.Go.OpenSpec := { _root_.Go.OpenSpec.ofChange s with cond := some uptoSmall }

/-- 'mimesislaw09.MaskFinds', WHERE WHAT IT READS IS OF BULK AT MOST 1048576: true; the input reads as it did. -/
def maskFindsUptoRow : OpenClaim := { program := "ytnooikjkjcflbaadoor", sum := "48a8e09c94447e1dbe8d86ea71bd352c953fbfcbb89671875c0eba4065f4fde9", func := "mimesis/mimesislaw09.MaskFinds", spec := "maskFinds", unfollowed := true, recurses := true, named := ["mimesis/mask.rows"], apart := false, laid := [("mimesis/mask.rows", laid_mimesis_mask_rows)], narrowed := true }
def MaskFindsUptoSaid : Prop := maskFindsUptoRow.holds Tryd.pinned (OpenSpec.upto maskFindsSpec)

/-- 'mimesislaw09.MaskLegal', WHERE WHAT IT READS IS OF BULK AT MOST 1048576: true; the input reads as it did. -/
def maskLegalUptoRow : OpenClaim := { program := "ytnooikjkjcflbaadoor", sum := "48a8e09c94447e1dbe8d86ea71bd352c953fbfcbb89671875c0eba4065f4fde9", func := "mimesis/mimesislaw09.MaskLegal", spec := "maskLegal", unfollowed := true, recurses := true, named := ["mimesis/mask.rows"], apart := false, laid := [("mimesis/mask.rows", laid_mimesis_mask_rows)], narrowed := true }
def MaskLegalUptoSaid : Prop := maskLegalUptoRow.holds Tryd.pinned (OpenSpec.upto maskLegalSpec)

/-- 'mimesislaw09.MaskNames', WHERE WHAT IT READS IS OF BULK AT MOST 1048576: true; the input reads as it did. -/
def maskNamesUptoRow : OpenClaim := { program := "ytnooikjkjcflbaadoor", sum := "48a8e09c94447e1dbe8d86ea71bd352c953fbfcbb89671875c0eba4065f4fde9", func := "mimesis/mimesislaw09.MaskNames", spec := "maskNames", unfollowed := true, recurses := true, named := ["mimesis/mask.rows"], apart := false, laid := [("mimesis/mask.rows", laid_mimesis_mask_rows)], narrowed := true }
def MaskNamesUptoSaid : Prop := maskNamesUptoRow.holds Tryd.pinned (OpenSpec.upto maskNamesSpec)

/-- 'mimesislaw09.MaskWrites', WHERE WHAT IT READS IS OF BULK AT MOST 1048576: true; the input reads as it did. -/
def maskWritesUptoRow : OpenClaim := { program := "ytnooikjkjcflbaadoor", sum := "48a8e09c94447e1dbe8d86ea71bd352c953fbfcbb89671875c0eba4065f4fde9", func := "mimesis/mimesislaw09.MaskWrites", spec := "maskWrites", unfollowed := true, recurses := true, named := ["mimesis/mask.rows"], apart := false, laid := [("mimesis/mask.rows", laid_mimesis_mask_rows)], narrowed := true }
def MaskWritesUptoSaid : Prop := maskWritesUptoRow.holds Tryd.pinned (OpenSpec.upto maskWritesSpec)

/-- 'mimesislaw16.CsrReads', WHERE WHAT IT READS IS OF BULK AT MOST 1048576: true; the input reads as it did. -/
def csrReadsUptoRow : OpenClaim := { program := "ytnooikjkjcflbaadoor", sum := "48a8e09c94447e1dbe8d86ea71bd352c953fbfcbb89671875c0eba4065f4fde9", func := "mimesis/mimesislaw16.CsrReads", spec := "csrReads", unfollowed := true, recurses := true, named := ["mimesis/mask.rows"], apart := false, laid := [("mimesis/mask.rows", laid_mimesis_mask_rows)], narrowed := true }
def CsrReadsUptoSaid : Prop := csrReadsUptoRow.holds Tryd.pinned (OpenSpec.upto csrReadsSpec)

/-- 'mimesislaw02.InstNames', WHERE WHAT IT READS IS OF BULK AT MOST 1048576: true; the input reads as it did. -/
def instNamesUptoRow : OpenClaim := { program := "ytnooikjkjcflbaadoor", sum := "48a8e09c94447e1dbe8d86ea71bd352c953fbfcbb89671875c0eba4065f4fde9", func := "mimesis/mimesislaw02.InstNames", spec := "instNames", named := ["mimesis/inst.names", "mimesis/inst.forms"], apart := false, laid := [("mimesis/inst.names", laid_mimesis_inst_names), ("mimesis/inst.forms", laid_mimesis_inst_forms)], narrowed := true }
def InstNamesUptoSaid : Prop := instNamesUptoRow.holds Tryd.pinned (OpenSpec.upto instNamesSpec)

/-- 'mimesislaw02.InstOps', WHERE WHAT IT READS IS OF BULK AT MOST 1048576: true; the input reads as it did. -/
def instOpsUptoRow : OpenClaim := { program := "ytnooikjkjcflbaadoor", sum := "48a8e09c94447e1dbe8d86ea71bd352c953fbfcbb89671875c0eba4065f4fde9", func := "mimesis/mimesislaw02.InstOps", spec := "instOps", named := ["mimesis/inst.names", "mimesis/inst.forms"], apart := false, laid := [("mimesis/inst.names", laid_mimesis_inst_names), ("mimesis/inst.forms", laid_mimesis_inst_forms)], narrowed := true }
def InstOpsUptoSaid : Prop := instOpsUptoRow.holds Tryd.pinned (OpenSpec.upto instOpsSpec)

/-- 'mimesislaw02.InstRight', WHERE WHAT IT READS IS OF BULK AT MOST 1048576: true; the input reads as it did. -/
def instRightUptoRow : OpenClaim := { program := "ytnooikjkjcflbaadoor", sum := "48a8e09c94447e1dbe8d86ea71bd352c953fbfcbb89671875c0eba4065f4fde9", func := "mimesis/mimesislaw02.InstRight", spec := "instRight", named := ["mimesis/inst.forms", "mimesis/inst.names"], apart := false, laid := [("mimesis/inst.names", laid_mimesis_inst_names), ("mimesis/inst.forms", laid_mimesis_inst_forms)], narrowed := true }
def InstRightUptoSaid : Prop := instRightUptoRow.holds Tryd.pinned (OpenSpec.upto instRightSpec)

end Rows
end Go.Proofs.YtnooikjkjcflbaaDoor
