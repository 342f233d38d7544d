/-
  No cell of these rows narrows 'for every input' (looked for: loops, veiled, ifaces, maps, wideKeys, modest, calm, conditions, laid).
  DERIVED. THE GIVEN ROWS OF THIS SEAT. 4 by the template 'for every input the law returns true; each argument reads behind the call as it read before'; 0 by the template 'total and deterministic' (their statements: YtnooikjkjcflbaaTotals.lean).
  GIVEN WITH THE SEED: the statements are not yours to turn. If you find one false, say at which input.
  Laid BY PROGRAM, IN A SANDBOX (cutbox-rows.mjs): the forced cells as the released guide's own fill.sh prints them over the translation 02b5ce204939250c… (all of the seat's roots in one cut). By AI agents, Wed Nov 11 2026. No macro, syntax, notation, axiom, sorry.
-/
import Derived.Test.YtnooikjkjcflbaaChecked
import GoSem.Claim
import GoSem.ClaimJoined
import GoSem.ClaimMapViews
import Derived.JoinedTies
import Derived.KernelRfl
namespace Go.Proofs.Ytnooikjkjcflbaa
/- THE CELL 'sum', in the pinned program and in every row, IS THE sha256 OF THE DUMP (.gsa) THAT YtnooikjkjcflbaaProg.lean LOADS. Nothing in Lean hashes anything: it is a label: what it is worth is what the hold of that sum in a sandbox is worth. -/
noncomputable def Try.pinned : Pinned := { name := "ytnooikjkjcflbaa", sum := "02b5ce204939250c2ff2fd424a1bbd731c351b9e2176103b0393f9ecd27eb59b", checked := Try.checked }
namespace Rows
def none {H : Type} : Left H := { results := [], args := [] }

/-- 'mimesislaw08.MuldivDoes': WHATEVER THE INPUT: true; the input reads as it did. -/
def muldivDoesSpec : ChangeSpec := { name := "muldivDoes", fn := fun _ => fun
  | [d1, d2, d3] => { results := [.lit (.bool true)], args := [d1, d2, d3] }
  | _ => none }
def muldivDoesRow : OpenClaim := { program := "ytnooikjkjcflbaa", sum := "02b5ce204939250c2ff2fd424a1bbd731c351b9e2176103b0393f9ecd27eb59b", func := "mimesis/mimesislaw08.MuldivDoes", spec := "muldivDoes", unfollowed := true, recurses := true, apart := false }
def MuldivDoesSaid : Prop := muldivDoesRow.holds Try.pinned (OpenSpec.ofChange muldivDoesSpec)

/-- ITS FALSE NEIGHBOUR: 'it returns false'. Refute it at one input. -/
def muldivDoesWrong : ChangeSpec := { name := "muldivDoes", fn := fun _ => fun
  | [d1, d2, d3] => { results := [.lit (.bool false)], args := [d1, d2, d3] }
  | _ => none }
def MuldivDoesWrongFalsely : Prop := muldivDoesRow.holds Try.pinned (OpenSpec.ofChange muldivDoesWrong)

/-- 'mimesislaw08.MuldivWide': WHATEVER THE INPUT: true; the input reads as it did. -/
def muldivWideSpec : ChangeSpec := { name := "muldivWide", fn := fun _ => fun
  | [d1, d2] => { results := [.lit (.bool true)], args := [d1, d2] }
  | _ => none }
def muldivWideRow : OpenClaim := { program := "ytnooikjkjcflbaa", sum := "02b5ce204939250c2ff2fd424a1bbd731c351b9e2176103b0393f9ecd27eb59b", func := "mimesis/mimesislaw08.MuldivWide", spec := "muldivWide", unfollowed := true, recurses := true, apart := false }
def MuldivWideSaid : Prop := muldivWideRow.holds Try.pinned (OpenSpec.ofChange muldivWideSpec)

/-- ITS FALSE NEIGHBOUR: 'it returns false'. Refute it at one input. -/
def muldivWideWrong : ChangeSpec := { name := "muldivWide", fn := fun _ => fun
  | [d1, d2] => { results := [.lit (.bool false)], args := [d1, d2] }
  | _ => none }
def MuldivWideWrongFalsely : Prop := muldivWideRow.holds Try.pinned (OpenSpec.ofChange muldivWideWrong)

/-- 'mimesislaw08.MuldivBack': WHATEVER THE INPUT: true; the input reads as it did. -/
def muldivBackSpec : ChangeSpec := { name := "muldivBack", fn := fun _ => fun
  | [d1, d2] => { results := [.lit (.bool true)], args := [d1, d2] }
  | _ => none }
def muldivBackRow : OpenClaim := { program := "ytnooikjkjcflbaa", sum := "02b5ce204939250c2ff2fd424a1bbd731c351b9e2176103b0393f9ecd27eb59b", func := "mimesis/mimesislaw08.MuldivBack", spec := "muldivBack", unfollowed := true, recurses := true, apart := false }
def MuldivBackSaid : Prop := muldivBackRow.holds Try.pinned (OpenSpec.ofChange muldivBackSpec)

/-- ITS FALSE NEIGHBOUR: 'it returns false'. Refute it at one input. -/
def muldivBackWrong : ChangeSpec := { name := "muldivBack", fn := fun _ => fun
  | [d1, d2] => { results := [.lit (.bool false)], args := [d1, d2] }
  | _ => none }
def MuldivBackWrongFalsely : Prop := muldivBackRow.holds Try.pinned (OpenSpec.ofChange muldivBackWrong)

/-- 'mimesislaw08.MuldivHalves': WHATEVER THE INPUT: true; the input reads as it did. -/
def muldivHalvesSpec : ChangeSpec := { name := "muldivHalves", fn := fun _ => fun
  | [d1, d2] => { results := [.lit (.bool true)], args := [d1, d2] }
  | _ => none }
def muldivHalvesRow : OpenClaim := { program := "ytnooikjkjcflbaa", sum := "02b5ce204939250c2ff2fd424a1bbd731c351b9e2176103b0393f9ecd27eb59b", func := "mimesis/mimesislaw08.MuldivHalves", spec := "muldivHalves", unfollowed := true, recurses := true, apart := false }
def MuldivHalvesSaid : Prop := muldivHalvesRow.holds Try.pinned (OpenSpec.ofChange muldivHalvesSpec)

/-- ITS FALSE NEIGHBOUR: 'it returns false'. Refute it at one input. -/
def muldivHalvesWrong : ChangeSpec := { name := "muldivHalves", fn := fun _ => fun
  | [d1, d2] => { results := [.lit (.bool false)], args := [d1, d2] }
  | _ => none }
def MuldivHalvesWrongFalsely : Prop := muldivHalvesRow.holds Try.pinned (OpenSpec.ofChange muldivHalvesWrong)

/- THE SECOND FORM. 'bulk': how many values and letters a reading holds, each counted each time it is reached (what is shared counts as often as it is met; a slice's spare places count too). A statement '..UptoSaid' is the law's where the arguments, and the package variables that the reading takes, are together of bulk at most 1048576: NARROWER than '..Said'. Prove '..Said' where nothing that the law and all that it calls make is longer than what came in: it says more and counts as full. Else prove '..UptoSaid'. A law counts once. -/
mutual
def uptoBulk {H : Type} : DataW H → Nat
  | .lit (.string bytes) => bytes.length + 1
  | .lit _ => 1
  | .nil => 1
  | .ptr d => uptoBulk d + 1
  | .slice elems spare => uptoBulkAll elems + uptoBulkAll spare + 1
  | .agg parts => uptoBulkAll parts + 1
  | .iface _ d => uptoBulk d + 1
  | .map entries => uptoBulkEntries entries + 1
  | .held _ => 1
def uptoBulkAll {H : Type} : List (DataW H) → Nat
  | [] => 0
  | d :: r => uptoBulk d + uptoBulkAll r
def uptoBulkEntries {H : Type} : List (Lit × DataW H) → Nat
  | [] => 0
  | x :: r => uptoBulkEntry x + uptoBulkEntries r
def uptoBulkEntry {H : Type} : Lit × DataW H → Nat
  | (.string bytes, d) => bytes.length + uptoBulk d + 1
  | (_, d) => uptoBulk d + 1
 end
def uptoSmall : (H : Type) → List (DataW H) → Bool := fun _ ds => decide (uptoBulkAll ds ≤ 1048576)
def OpenSpec.upto (s : _root_.Go.ChangeSpec) : _root_.Go.OpenSpec := { _root_.Go.OpenSpec.ofChange s with cond := some uptoSmall }

/-- 'mimesislaw08.MuldivDoes', WHERE WHAT IT READS IS OF BULK AT MOST 1048576: true; the input reads as it did. -/
def muldivDoesUptoRow : OpenClaim := { program := "ytnooikjkjcflbaa", sum := "02b5ce204939250c2ff2fd424a1bbd731c351b9e2176103b0393f9ecd27eb59b", func := "mimesis/mimesislaw08.MuldivDoes", spec := "muldivDoes", unfollowed := true, recurses := true, apart := false, narrowed := true }
def MuldivDoesUptoSaid : Prop := muldivDoesUptoRow.holds Try.pinned (OpenSpec.upto muldivDoesSpec)

/-- 'mimesislaw08.MuldivWide', WHERE WHAT IT READS IS OF BULK AT MOST 1048576: true; the input reads as it did. -/
def muldivWideUptoRow : OpenClaim := { program := "ytnooikjkjcflbaa", sum := "02b5ce204939250c2ff2fd424a1bbd731c351b9e2176103b0393f9ecd27eb59b", func := "mimesis/mimesislaw08.MuldivWide", spec := "muldivWide", unfollowed := true, recurses := true, apart := false, narrowed := true }
def MuldivWideUptoSaid : Prop := muldivWideUptoRow.holds Try.pinned (OpenSpec.upto muldivWideSpec)

/-- 'mimesislaw08.MuldivBack', WHERE WHAT IT READS IS OF BULK AT MOST 1048576: true; the input reads as it did. -/
def muldivBackUptoRow : OpenClaim := { program := "ytnooikjkjcflbaa", sum := "02b5ce204939250c2ff2fd424a1bbd731c351b9e2176103b0393f9ecd27eb59b", func := "mimesis/mimesislaw08.MuldivBack", spec := "muldivBack", unfollowed := true, recurses := true, apart := false, narrowed := true }
def MuldivBackUptoSaid : Prop := muldivBackUptoRow.holds Try.pinned (OpenSpec.upto muldivBackSpec)

/-- 'mimesislaw08.MuldivHalves', WHERE WHAT IT READS IS OF BULK AT MOST 1048576: true; the input reads as it did. -/
def muldivHalvesUptoRow : OpenClaim := { program := "ytnooikjkjcflbaa", sum := "02b5ce204939250c2ff2fd424a1bbd731c351b9e2176103b0393f9ecd27eb59b", func := "mimesis/mimesislaw08.MuldivHalves", spec := "muldivHalves", unfollowed := true, recurses := true, apart := false, narrowed := true }
def MuldivHalvesUptoSaid : Prop := muldivHalvesUptoRow.holds Try.pinned (OpenSpec.upto muldivHalvesSpec)

end Rows
end Go.Proofs.Ytnooikjkjcflbaa
