/-
  DERIVED. GIVEN WITH THE SEED: THE CARDS: each row of YtnooikjkjcflbacDoorRows.lean that lists a variable, with what it lists TIED to the program's text (the seventh form; the later family's looks); each row that meets fmt, with fmt's text TOLD by the authors' own Lean function (tested against real Go, not proved from fmt's source: count such statements apart). THE CARD IS WHAT COUNTS. Prove the row's statement (the work); the ties are given (YtnooikjkjcflbacDoorTie.lean); close each card by the builder's one call (the guide's Derived/Test/ToyasCard.lean, 'card_holds'). Laid BY PROGRAM, IN A SANDBOX (cutbox-door.mjs). By AI agents, Wed Nov 11 2026. No macro, syntax, notation, axiom, sorry.
-/
import Derived.Test.YtnooikjkjcflbacDoorRows
import GoSem.ClaimSeven
namespace Go.Proofs.YtnooikjkjcflbacDoor
namespace Rows

/-- THE TIED CARD OF 'mimesislaw03.DecodeApart'. -/
def decodeApartCard : Claim7 := { stood := { row := decodeApartRow, standIns := [], harness := (true, "c7f686e6e1fd3894226e06a0155799df3cf35bed2eac98156625dc9445958289"), looks := false }, kinds := [], alts := [], laidByText := true, laidKinds := [.data], laidTests := true, laidLooks := .later }
def DecodeApartCardSaid : Prop := Claim7.holds Tryd.pinned (.plain (OpenSpec.ofChange decodeApartSpec)) decodeApartCard

/-- THE TIED CARD OF 'mimesislaw03.DecodeTurned'. -/
def decodeTurnedCard : Claim7 := { stood := { row := decodeTurnedRow, standIns := [], harness := (true, "c7f686e6e1fd3894226e06a0155799df3cf35bed2eac98156625dc9445958289"), looks := false }, kinds := [], alts := [], laidByText := true, laidKinds := [.data], laidTests := true, laidLooks := .later }
def DecodeTurnedCardSaid : Prop := Claim7.holds Tryd.pinned (.plain (OpenSpec.ofChange decodeTurnedSpec)) decodeTurnedCard

/-- THE TIED CARD OF 'mimesislaw03.DecodeAll'. -/
def decodeAllCard : Claim7 := { stood := { row := decodeAllRow, standIns := [], harness := (true, "c7f686e6e1fd3894226e06a0155799df3cf35bed2eac98156625dc9445958289"), looks := false }, kinds := [], alts := [], laidByText := true, laidKinds := [.data], laidTests := true, laidLooks := .later }
def DecodeAllCardSaid : Prop := Claim7.holds Tryd.pinned (.plain (OpenSpec.ofChange decodeAllSpec)) decodeAllCard

/-- THE TIED CARD OF 'mimesislaw23.IrChecks'. -/
def irChecksCard : Claim7 := { stood := { row := irChecksRow, standIns := [], harness := (true, "c7f686e6e1fd3894226e06a0155799df3cf35bed2eac98156625dc9445958289"), looks := false }, kinds := [], alts := [], laidByText := true, laidKinds := [.data], laidTests := true, laidLooks := .later }
def IrChecksCardSaid : Prop := Claim7.holds Tryd.pinned (.plain (OpenSpec.ofChange irChecksSpec)) irChecksCard

/-- THE TIED CARD OF 'mimesislaw23.IrTexts'. -/
def irTextsCard : Claim7 := { stood := { row := irTextsRow, standIns := [], harness := (true, "c7f686e6e1fd3894226e06a0155799df3cf35bed2eac98156625dc9445958289"), looks := false }, kinds := [], alts := [], laidByText := true, laidKinds := [.data], laidTests := true, laidLooks := .later }
def IrTextsCardSaid : Prop := Claim7.holds Tryd.pinned (.plain (OpenSpec.ofChange irTextsSpec)) irTextsCard

/-- THE TIED CARD OF 'mimesislaw23.IrUses'. -/
def irUsesCard : Claim7 := { stood := { row := irUsesRow, standIns := [], harness := (true, "c7f686e6e1fd3894226e06a0155799df3cf35bed2eac98156625dc9445958289"), looks := false }, kinds := [], alts := [], laidByText := true, laidKinds := [.data], laidTests := true, laidLooks := .later }
def IrUsesCardSaid : Prop := Claim7.holds Tryd.pinned (.plain (OpenSpec.ofChange irUsesSpec)) irUsesCard

/-- THE TIED CARD OF 'mimesislaw04.EncodeBack'. -/
def encodeBackCard : Claim7 := { stood := { row := encodeBackRow, standIns := [], harness := (true, "c7f686e6e1fd3894226e06a0155799df3cf35bed2eac98156625dc9445958289"), looks := false }, kinds := [], alts := [], laidByText := true, laidKinds := [.data, .data], laidTests := true, laidLooks := .later }
def EncodeBackCardSaid : Prop := Claim7.holds Tryd.pinned (.plain (OpenSpec.ofChange encodeBackSpec)) encodeBackCard

/-- THE SECOND FORM's CARD OF 'mimesislaw03.DecodeApart'. -/
def decodeApartUptoCard : Claim7 := { stood := { row := decodeApartUptoRow, standIns := [], harness := (true, "c7f686e6e1fd3894226e06a0155799df3cf35bed2eac98156625dc9445958289"), looks := false }, kinds := [], alts := [], laidByText := true, laidKinds := [.data], laidTests := true, laidLooks := .later }
def DecodeApartUptoCardSaid : Prop := Claim7.holds Tryd.pinned (.plain (OpenSpec.upto decodeApartSpec)) decodeApartUptoCard

/-- THE SECOND FORM's CARD OF 'mimesislaw03.DecodeTurned'. -/
def decodeTurnedUptoCard : Claim7 := { stood := { row := decodeTurnedUptoRow, standIns := [], harness := (true, "c7f686e6e1fd3894226e06a0155799df3cf35bed2eac98156625dc9445958289"), looks := false }, kinds := [], alts := [], laidByText := true, laidKinds := [.data], laidTests := true, laidLooks := .later }
def DecodeTurnedUptoCardSaid : Prop := Claim7.holds Tryd.pinned (.plain (OpenSpec.upto decodeTurnedSpec)) decodeTurnedUptoCard

/-- THE SECOND FORM's CARD OF 'mimesislaw03.DecodeAll'. -/
def decodeAllUptoCard : Claim7 := { stood := { row := decodeAllUptoRow, standIns := [], harness := (true, "c7f686e6e1fd3894226e06a0155799df3cf35bed2eac98156625dc9445958289"), looks := false }, kinds := [], alts := [], laidByText := true, laidKinds := [.data], laidTests := true, laidLooks := .later }
def DecodeAllUptoCardSaid : Prop := Claim7.holds Tryd.pinned (.plain (OpenSpec.upto decodeAllSpec)) decodeAllUptoCard

/-- THE SECOND FORM's CARD OF 'mimesislaw23.IrChecks'. -/
def irChecksUptoCard : Claim7 := { stood := { row := irChecksUptoRow, standIns := [], harness := (true, "c7f686e6e1fd3894226e06a0155799df3cf35bed2eac98156625dc9445958289"), looks := false }, kinds := [], alts := [], laidByText := true, laidKinds := [.data], laidTests := true, laidLooks := .later }
def IrChecksUptoCardSaid : Prop := Claim7.holds Tryd.pinned (.plain (OpenSpec.upto irChecksSpec)) irChecksUptoCard

/-- THE SECOND FORM's CARD OF 'mimesislaw23.IrTexts'. -/
def irTextsUptoCard : Claim7 := { stood := { row := irTextsUptoRow, standIns := [], harness := (true, "c7f686e6e1fd3894226e06a0155799df3cf35bed2eac98156625dc9445958289"), looks := false }, kinds := [], alts := [], laidByText := true, laidKinds := [.data], laidTests := true, laidLooks := .later }
def IrTextsUptoCardSaid : Prop := Claim7.holds Tryd.pinned (.plain (OpenSpec.upto irTextsSpec)) irTextsUptoCard

/-- THE SECOND FORM's CARD OF 'mimesislaw23.IrUses'. -/
def irUsesUptoCard : Claim7 := { stood := { row := irUsesUptoRow, standIns := [], harness := (true, "c7f686e6e1fd3894226e06a0155799df3cf35bed2eac98156625dc9445958289"), looks := false }, kinds := [], alts := [], laidByText := true, laidKinds := [.data], laidTests := true, laidLooks := .later }
def IrUsesUptoCardSaid : Prop := Claim7.holds Tryd.pinned (.plain (OpenSpec.upto irUsesSpec)) irUsesUptoCard

/-- THE SECOND FORM's CARD OF 'mimesislaw04.EncodeBack'. -/
def encodeBackUptoCard : Claim7 := { stood := { row := encodeBackUptoRow, standIns := [], harness := (true, "c7f686e6e1fd3894226e06a0155799df3cf35bed2eac98156625dc9445958289"), looks := false }, kinds := [], alts := [], laidByText := true, laidKinds := [.data, .data], laidTests := true, laidLooks := .later }
def EncodeBackUptoCardSaid : Prop := Claim7.holds Tryd.pinned (.plain (OpenSpec.upto encodeBackSpec)) encodeBackUptoCard
end Rows
end Go.Proofs.YtnooikjkjcflbacDoor
