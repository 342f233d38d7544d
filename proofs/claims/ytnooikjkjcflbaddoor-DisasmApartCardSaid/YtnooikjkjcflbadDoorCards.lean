/-
  DERIVED. GIVEN WITH THE SEED: THE CARDS: each row of YtnooikjkjcflbadDoorRows.lean that lists a variable, with what it lists TIED to the program's text (the seventh form; the later family's looks); each row that meets fmt, with fmt's text TOLD by the authors' own Lean function (tested against real Go, not proved from fmt's source: count such statements apart). THE CARD IS WHAT COUNTS. Prove the row's statement (the work); the ties are given (YtnooikjkjcflbadDoorTie.lean); close each card by the builder's one call (the guide's Derived/Test/ToyasCard.lean, 'card_holds'). Laid BY PROGRAM, IN A SANDBOX (cutbox-door.mjs). By AI agents, Wed Nov 11 2026. No macro, syntax, notation, axiom, sorry.
-/
import Derived.Test.YtnooikjkjcflbadDoorRows
import GoSem.ClaimSeven
namespace Go.Proofs.YtnooikjkjcflbadDoor
namespace Rows

/-- THE TIED CARD OF 'mimesislaw23.IrClones'. -/
def irClonesCard : Claim7 := { stood := { row := irClonesRow, standIns := [], harness := (true, "843320c5a9f3d29c435338e057e7ba23eeb2912f2ef7dfa916e302daffc2f4ec"), looks := false }, kinds := [], alts := [], laidByText := true, laidKinds := [.data], laidTests := true, laidLooks := .later }
def IrClonesCardSaid : Prop := Claim7.holds Tryd.pinned (.plain (OpenSpec.ofChange irClonesSpec)) irClonesCard

/-- THE TIED CARD OF 'mimesislaw05.DisasmNumbers'. -/
def disasmNumbersCard : Claim7 := { stood := { row := disasmNumbersRow, standIns := [], harness := (true, "843320c5a9f3d29c435338e057e7ba23eeb2912f2ef7dfa916e302daffc2f4ec"), looks := false }, kinds := [], alts := [], laidByText := true, laidKinds := [.data, .data], laidTests := true, laidLooks := .later }
def DisasmNumbersCardSaid : Prop := Claim7.holds Tryd.pinned (.plain (OpenSpec.ofChange disasmNumbersSpec)) disasmNumbersCard

/-- THE TIED CARD OF 'mimesislaw05.DisasmTexts'. -/
def disasmTextsCard : Claim7 := { stood := { row := disasmTextsRow, standIns := [], harness := (true, "843320c5a9f3d29c435338e057e7ba23eeb2912f2ef7dfa916e302daffc2f4ec"), looks := false }, kinds := [], alts := [], laidByText := true, laidKinds := [.data, .data], laidTests := true, laidLooks := .later }
def DisasmTextsCardSaid : Prop := Claim7.holds Tryd.pinned (.plain (OpenSpec.ofChange disasmTextsSpec)) disasmTextsCard

/-- THE TIED CARD OF 'mimesislaw05.DisasmApart'. -/
def disasmApartCard : Claim7 := { stood := { row := disasmApartRow, standIns := [], harness := (true, "843320c5a9f3d29c435338e057e7ba23eeb2912f2ef7dfa916e302daffc2f4ec"), looks := false }, kinds := [], alts := [], laidByText := true, laidKinds := [.data, .data], laidTests := true, laidLooks := .later }
def DisasmApartCardSaid : Prop := Claim7.holds Tryd.pinned (.plain (OpenSpec.ofChange disasmApartSpec)) disasmApartCard

/-- THE TIED CARD OF 'mimesislaw05.DisasmWords'. -/
def disasmWordsCard : Claim7 := { stood := { row := disasmWordsRow, standIns := [], harness := (true, "843320c5a9f3d29c435338e057e7ba23eeb2912f2ef7dfa916e302daffc2f4ec"), looks := false }, kinds := [], alts := [], laidByText := true, laidKinds := [.data, .data], laidTests := true, laidLooks := .later }
def DisasmWordsCardSaid : Prop := Claim7.holds Tryd.pinned (.plain (OpenSpec.ofChange disasmWordsSpec)) disasmWordsCard

/-- THE SECOND FORM's CARD OF 'mimesislaw23.IrClones'. -/
def irClonesUptoCard : Claim7 := { stood := { row := irClonesUptoRow, standIns := [], harness := (true, "843320c5a9f3d29c435338e057e7ba23eeb2912f2ef7dfa916e302daffc2f4ec"), looks := false }, kinds := [], alts := [], laidByText := true, laidKinds := [.data], laidTests := true, laidLooks := .later }
def IrClonesUptoCardSaid : Prop := Claim7.holds Tryd.pinned (.plain (OpenSpec.upto irClonesSpec)) irClonesUptoCard

/-- THE SECOND FORM's CARD OF 'mimesislaw05.DisasmNumbers'. -/
def disasmNumbersUptoCard : Claim7 := { stood := { row := disasmNumbersUptoRow, standIns := [], harness := (true, "843320c5a9f3d29c435338e057e7ba23eeb2912f2ef7dfa916e302daffc2f4ec"), looks := false }, kinds := [], alts := [], laidByText := true, laidKinds := [.data, .data], laidTests := true, laidLooks := .later }
def DisasmNumbersUptoCardSaid : Prop := Claim7.holds Tryd.pinned (.plain (OpenSpec.upto disasmNumbersSpec)) disasmNumbersUptoCard

/-- THE SECOND FORM's CARD OF 'mimesislaw05.DisasmTexts'. -/
def disasmTextsUptoCard : Claim7 := { stood := { row := disasmTextsUptoRow, standIns := [], harness := (true, "843320c5a9f3d29c435338e057e7ba23eeb2912f2ef7dfa916e302daffc2f4ec"), looks := false }, kinds := [], alts := [], laidByText := true, laidKinds := [.data, .data], laidTests := true, laidLooks := .later }
def DisasmTextsUptoCardSaid : Prop := Claim7.holds Tryd.pinned (.plain (OpenSpec.upto disasmTextsSpec)) disasmTextsUptoCard

/-- THE SECOND FORM's CARD OF 'mimesislaw05.DisasmApart'. -/
def disasmApartUptoCard : Claim7 := { stood := { row := disasmApartUptoRow, standIns := [], harness := (true, "843320c5a9f3d29c435338e057e7ba23eeb2912f2ef7dfa916e302daffc2f4ec"), looks := false }, kinds := [], alts := [], laidByText := true, laidKinds := [.data, .data], laidTests := true, laidLooks := .later }
def DisasmApartUptoCardSaid : Prop := Claim7.holds Tryd.pinned (.plain (OpenSpec.upto disasmApartSpec)) disasmApartUptoCard

/-- THE SECOND FORM's CARD OF 'mimesislaw05.DisasmWords'. -/
def disasmWordsUptoCard : Claim7 := { stood := { row := disasmWordsUptoRow, standIns := [], harness := (true, "843320c5a9f3d29c435338e057e7ba23eeb2912f2ef7dfa916e302daffc2f4ec"), looks := false }, kinds := [], alts := [], laidByText := true, laidKinds := [.data, .data], laidTests := true, laidLooks := .later }
def DisasmWordsUptoCardSaid : Prop := Claim7.holds Tryd.pinned (.plain (OpenSpec.upto disasmWordsSpec)) disasmWordsUptoCard
end Rows
end Go.Proofs.YtnooikjkjcflbadDoor
