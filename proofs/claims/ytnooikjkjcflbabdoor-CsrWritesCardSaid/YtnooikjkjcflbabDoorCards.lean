/-
  DERIVED. GIVEN WITH THE SEED: THE CARDS: each row of YtnooikjkjcflbabDoorRows.lean that lists a variable, with what it lists TIED to the program's text (the seventh form; the later family's looks); each row that meets fmt, with fmt's text TOLD by the authors' own Lean function (tested against real Go, not proved from fmt's source: count such statements apart). THE CARD IS WHAT COUNTS. Prove the row's statement (the work); the ties are given (YtnooikjkjcflbabDoorTie.lean); close each card by the builder's one call (the guide's Derived/Test/ToyasCard.lean, 'card_holds'). Laid BY PROGRAM, IN A SANDBOX (cutbox-door.mjs). By AI agents, Wed Nov 11 2026. No macro, syntax, notation, axiom, sorry.
-/
import Derived.Test.YtnooikjkjcflbabDoorRows
import GoSem.ClaimSeven
namespace Go.Proofs.YtnooikjkjcflbabDoor
namespace Rows

/-- THE TIED CARD OF 'mimesislaw02.InstUses'. -/
def instUsesCard : Claim7 := { stood := { row := instUsesRow, standIns := [], harness := (true, "76cd4afb0598695b462ac856210ea3e9ca07956922bb07bca8039f0d820cd3ce"), looks := false }, kinds := [], alts := [], laidByText := true, laidKinds := [.data, .data], laidTests := true, laidLooks := .later }
def InstUsesCardSaid : Prop := Claim7.holds Tryd.pinned (.plain (OpenSpec.ofChange instUsesSpec)) instUsesCard

/-- THE TIED CARD OF 'mimesislaw02.InstKinds'. -/
def instKindsCard : Claim7 := { stood := { row := instKindsRow, standIns := [], harness := (true, "76cd4afb0598695b462ac856210ea3e9ca07956922bb07bca8039f0d820cd3ce"), looks := false }, kinds := [], alts := [], laidByText := true, laidKinds := [.data, .data], laidTests := true, laidLooks := .later }
def InstKindsCardSaid : Prop := Claim7.holds Tryd.pinned (.plain (OpenSpec.ofChange instKindsSpec)) instKindsCard

/-- THE TIED CARD OF 'mimesislaw04.EncodeWords'. -/
def encodeWordsCard : Claim7 := { stood := { row := encodeWordsRow, standIns := [], harness := (true, "76cd4afb0598695b462ac856210ea3e9ca07956922bb07bca8039f0d820cd3ce"), looks := false }, kinds := [], alts := [], laidByText := true, laidKinds := [.data, .data], laidTests := true, laidLooks := .later }
def EncodeWordsCardSaid : Prop := Claim7.holds Tryd.pinned (.plain (OpenSpec.ofChange encodeWordsSpec)) encodeWordsCard

/-- THE TIED CARD OF 'mimesislaw16.CsrWrites'. -/
def csrWritesCard : Claim7 := { stood := { row := csrWritesRow, standIns := [], harness := (true, "76cd4afb0598695b462ac856210ea3e9ca07956922bb07bca8039f0d820cd3ce"), looks := false }, kinds := [], alts := [], laidByText := true, laidKinds := [.widerDeep], laidTests := true, laidLooks := .later }
def CsrWritesCardSaid : Prop := Claim7.holds Tryd.pinned (.plain (OpenSpec.ofChange csrWritesSpec)) csrWritesCard

/-- THE TIED CARD OF 'mimesislaw04.EncodeConstants'. -/
def encodeConstantsCard : Claim7 := { stood := { row := encodeConstantsRow, standIns := [], harness := (true, "76cd4afb0598695b462ac856210ea3e9ca07956922bb07bca8039f0d820cd3ce"), looks := false }, kinds := [], alts := [], laidByText := true, laidKinds := [.data, .data], laidTests := true, laidLooks := .later }
def EncodeConstantsCardSaid : Prop := Claim7.holds Tryd.pinned (.plain (OpenSpec.ofChange encodeConstantsSpec)) encodeConstantsCard

/-- THE TIED CARD OF 'mimesislaw04.EncodeLists'. -/
def encodeListsCard : Claim7 := { stood := { row := encodeListsRow, standIns := [], harness := (true, "76cd4afb0598695b462ac856210ea3e9ca07956922bb07bca8039f0d820cd3ce"), looks := false }, kinds := [], alts := [], laidByText := true, laidKinds := [.data, .data], laidTests := true, laidLooks := .later }
def EncodeListsCardSaid : Prop := Claim7.holds Tryd.pinned (.plain (OpenSpec.ofChange encodeListsSpec)) encodeListsCard

/-- THE TIED CARD OF 'mimesislaw03.DecodeWords'. -/
def decodeWordsCard : Claim7 := { stood := { row := decodeWordsRow, standIns := [], harness := (true, "76cd4afb0598695b462ac856210ea3e9ca07956922bb07bca8039f0d820cd3ce"), looks := false }, kinds := [], alts := [], laidByText := true, laidKinds := [.data], laidTests := true, laidLooks := .later }
def DecodeWordsCardSaid : Prop := Claim7.holds Tryd.pinned (.plain (OpenSpec.ofChange decodeWordsSpec)) decodeWordsCard

/-- THE TIED CARD OF 'mimesislaw03.DecodeRight'. -/
def decodeRightCard : Claim7 := { stood := { row := decodeRightRow, standIns := [], harness := (true, "76cd4afb0598695b462ac856210ea3e9ca07956922bb07bca8039f0d820cd3ce"), looks := false }, kinds := [], alts := [], laidByText := true, laidKinds := [.data], laidTests := true, laidLooks := .later }
def DecodeRightCardSaid : Prop := Claim7.holds Tryd.pinned (.plain (OpenSpec.ofChange decodeRightSpec)) decodeRightCard

/-- THE SECOND FORM's CARD OF 'mimesislaw02.InstUses'. -/
def instUsesUptoCard : Claim7 := { stood := { row := instUsesUptoRow, standIns := [], harness := (true, "76cd4afb0598695b462ac856210ea3e9ca07956922bb07bca8039f0d820cd3ce"), looks := false }, kinds := [], alts := [], laidByText := true, laidKinds := [.data, .data], laidTests := true, laidLooks := .later }
def InstUsesUptoCardSaid : Prop := Claim7.holds Tryd.pinned (.plain (OpenSpec.upto instUsesSpec)) instUsesUptoCard

/-- THE SECOND FORM's CARD OF 'mimesislaw02.InstKinds'. -/
def instKindsUptoCard : Claim7 := { stood := { row := instKindsUptoRow, standIns := [], harness := (true, "76cd4afb0598695b462ac856210ea3e9ca07956922bb07bca8039f0d820cd3ce"), looks := false }, kinds := [], alts := [], laidByText := true, laidKinds := [.data, .data], laidTests := true, laidLooks := .later }
def InstKindsUptoCardSaid : Prop := Claim7.holds Tryd.pinned (.plain (OpenSpec.upto instKindsSpec)) instKindsUptoCard

/-- THE SECOND FORM's CARD OF 'mimesislaw04.EncodeWords'. -/
def encodeWordsUptoCard : Claim7 := { stood := { row := encodeWordsUptoRow, standIns := [], harness := (true, "76cd4afb0598695b462ac856210ea3e9ca07956922bb07bca8039f0d820cd3ce"), looks := false }, kinds := [], alts := [], laidByText := true, laidKinds := [.data, .data], laidTests := true, laidLooks := .later }
def EncodeWordsUptoCardSaid : Prop := Claim7.holds Tryd.pinned (.plain (OpenSpec.upto encodeWordsSpec)) encodeWordsUptoCard

/-- THE SECOND FORM's CARD OF 'mimesislaw16.CsrWrites'. -/
def csrWritesUptoCard : Claim7 := { stood := { row := csrWritesUptoRow, standIns := [], harness := (true, "76cd4afb0598695b462ac856210ea3e9ca07956922bb07bca8039f0d820cd3ce"), looks := false }, kinds := [], alts := [], laidByText := true, laidKinds := [.widerDeep], laidTests := true, laidLooks := .later }
def CsrWritesUptoCardSaid : Prop := Claim7.holds Tryd.pinned (.plain (OpenSpec.upto csrWritesSpec)) csrWritesUptoCard

/-- THE SECOND FORM's CARD OF 'mimesislaw04.EncodeConstants'. -/
def encodeConstantsUptoCard : Claim7 := { stood := { row := encodeConstantsUptoRow, standIns := [], harness := (true, "76cd4afb0598695b462ac856210ea3e9ca07956922bb07bca8039f0d820cd3ce"), looks := false }, kinds := [], alts := [], laidByText := true, laidKinds := [.data, .data], laidTests := true, laidLooks := .later }
def EncodeConstantsUptoCardSaid : Prop := Claim7.holds Tryd.pinned (.plain (OpenSpec.upto encodeConstantsSpec)) encodeConstantsUptoCard

/-- THE SECOND FORM's CARD OF 'mimesislaw04.EncodeLists'. -/
def encodeListsUptoCard : Claim7 := { stood := { row := encodeListsUptoRow, standIns := [], harness := (true, "76cd4afb0598695b462ac856210ea3e9ca07956922bb07bca8039f0d820cd3ce"), looks := false }, kinds := [], alts := [], laidByText := true, laidKinds := [.data, .data], laidTests := true, laidLooks := .later }
def EncodeListsUptoCardSaid : Prop := Claim7.holds Tryd.pinned (.plain (OpenSpec.upto encodeListsSpec)) encodeListsUptoCard

/-- THE SECOND FORM's CARD OF 'mimesislaw03.DecodeWords'. -/
def decodeWordsUptoCard : Claim7 := { stood := { row := decodeWordsUptoRow, standIns := [], harness := (true, "76cd4afb0598695b462ac856210ea3e9ca07956922bb07bca8039f0d820cd3ce"), looks := false }, kinds := [], alts := [], laidByText := true, laidKinds := [.data], laidTests := true, laidLooks := .later }
def DecodeWordsUptoCardSaid : Prop := Claim7.holds Tryd.pinned (.plain (OpenSpec.upto decodeWordsSpec)) decodeWordsUptoCard

/-- THE SECOND FORM's CARD OF 'mimesislaw03.DecodeRight'. -/
def decodeRightUptoCard : Claim7 := { stood := { row := decodeRightUptoRow, standIns := [], harness := (true, "76cd4afb0598695b462ac856210ea3e9ca07956922bb07bca8039f0d820cd3ce"), looks := false }, kinds := [], alts := [], laidByText := true, laidKinds := [.data], laidTests := true, laidLooks := .later }
def DecodeRightUptoCardSaid : Prop := Claim7.holds Tryd.pinned (.plain (OpenSpec.upto decodeRightSpec)) decodeRightUptoCard
end Rows
end Go.Proofs.YtnooikjkjcflbabDoor
