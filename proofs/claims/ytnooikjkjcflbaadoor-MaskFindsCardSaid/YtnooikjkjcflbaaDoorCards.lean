/-
  DERIVED. GIVEN WITH THE SEED: THE CARDS: each row of YtnooikjkjcflbaaDoorRows.lean that lists a variable, with what it lists TIED to the program's text (the seventh form; the later family's looks); each row that meets fmt, with fmt's text TOLD by the authors' own Lean function (tested against real Go, not proved from fmt's source: count such statements apart). THE CARD IS WHAT COUNTS. Prove the row's statement (the work); the ties are given (YtnooikjkjcflbaaDoorTie.lean); close each card by the builder's one call (the guide's Derived/Test/ToyasCard.lean, 'card_holds'). Laid BY PROGRAM, IN A SANDBOX (cutbox-door.mjs). By AI agents, Wed Nov 11 2026. No macro, syntax, notation, axiom, sorry.
-/
import Derived.Test.YtnooikjkjcflbaaDoorRows
import GoSem.ClaimSeven
namespace Go.Proofs.YtnooikjkjcflbaaDoor
namespace Rows

/-- THE TIED CARD OF 'mimesislaw09.MaskFinds'. -/
def maskFindsCard : Claim7 := { stood := { row := maskFindsRow, standIns := [], harness := (true, "aa4116468e752842b4586f27aaafd3cd9bb29e590ed71417f474f32d92c9a38e"), looks := false }, kinds := [], alts := [], laidByText := true, laidKinds := [.widerDeep], laidTests := true, laidLooks := .later }
def MaskFindsCardSaid : Prop := Claim7.holds Tryd.pinned (.plain (OpenSpec.ofChange maskFindsSpec)) maskFindsCard

/-- THE TIED CARD OF 'mimesislaw09.MaskLegal'. -/
def maskLegalCard : Claim7 := { stood := { row := maskLegalRow, standIns := [], harness := (true, "aa4116468e752842b4586f27aaafd3cd9bb29e590ed71417f474f32d92c9a38e"), looks := false }, kinds := [], alts := [], laidByText := true, laidKinds := [.widerDeep], laidTests := true, laidLooks := .later }
def MaskLegalCardSaid : Prop := Claim7.holds Tryd.pinned (.plain (OpenSpec.ofChange maskLegalSpec)) maskLegalCard

/-- THE TIED CARD OF 'mimesislaw09.MaskNames'. -/
def maskNamesCard : Claim7 := { stood := { row := maskNamesRow, standIns := [], harness := (true, "aa4116468e752842b4586f27aaafd3cd9bb29e590ed71417f474f32d92c9a38e"), looks := false }, kinds := [], alts := [], laidByText := true, laidKinds := [.widerDeep], laidTests := true, laidLooks := .later }
def MaskNamesCardSaid : Prop := Claim7.holds Tryd.pinned (.plain (OpenSpec.ofChange maskNamesSpec)) maskNamesCard

/-- THE TIED CARD OF 'mimesislaw09.MaskWrites'. -/
def maskWritesCard : Claim7 := { stood := { row := maskWritesRow, standIns := [], harness := (true, "aa4116468e752842b4586f27aaafd3cd9bb29e590ed71417f474f32d92c9a38e"), looks := false }, kinds := [], alts := [], laidByText := true, laidKinds := [.widerDeep], laidTests := true, laidLooks := .later }
def MaskWritesCardSaid : Prop := Claim7.holds Tryd.pinned (.plain (OpenSpec.ofChange maskWritesSpec)) maskWritesCard

/-- THE TIED CARD OF 'mimesislaw16.CsrReads'. -/
def csrReadsCard : Claim7 := { stood := { row := csrReadsRow, standIns := [], harness := (true, "aa4116468e752842b4586f27aaafd3cd9bb29e590ed71417f474f32d92c9a38e"), looks := false }, kinds := [], alts := [], laidByText := true, laidKinds := [.widerDeep], laidTests := true, laidLooks := .later }
def CsrReadsCardSaid : Prop := Claim7.holds Tryd.pinned (.plain (OpenSpec.ofChange csrReadsSpec)) csrReadsCard

/-- THE TIED CARD OF 'mimesislaw02.InstNames'. -/
def instNamesCard : Claim7 := { stood := { row := instNamesRow, standIns := [], harness := (true, "aa4116468e752842b4586f27aaafd3cd9bb29e590ed71417f474f32d92c9a38e"), looks := false }, kinds := [], alts := [], laidByText := true, laidKinds := [.data, .data], laidTests := true, laidLooks := .later }
def InstNamesCardSaid : Prop := Claim7.holds Tryd.pinned (.plain (OpenSpec.ofChange instNamesSpec)) instNamesCard

/-- THE TIED CARD OF 'mimesislaw02.InstOps'. -/
def instOpsCard : Claim7 := { stood := { row := instOpsRow, standIns := [], harness := (true, "aa4116468e752842b4586f27aaafd3cd9bb29e590ed71417f474f32d92c9a38e"), looks := false }, kinds := [], alts := [], laidByText := true, laidKinds := [.data, .data], laidTests := true, laidLooks := .later }
def InstOpsCardSaid : Prop := Claim7.holds Tryd.pinned (.plain (OpenSpec.ofChange instOpsSpec)) instOpsCard

/-- THE TIED CARD OF 'mimesislaw02.InstRight'. -/
def instRightCard : Claim7 := { stood := { row := instRightRow, standIns := [], harness := (true, "aa4116468e752842b4586f27aaafd3cd9bb29e590ed71417f474f32d92c9a38e"), looks := false }, kinds := [], alts := [], laidByText := true, laidKinds := [.data, .data], laidTests := true, laidLooks := .later }
def InstRightCardSaid : Prop := Claim7.holds Tryd.pinned (.plain (OpenSpec.ofChange instRightSpec)) instRightCard

/-- THE SECOND FORM's CARD OF 'mimesislaw09.MaskFinds'. -/
def maskFindsUptoCard : Claim7 := { stood := { row := maskFindsUptoRow, standIns := [], harness := (true, "aa4116468e752842b4586f27aaafd3cd9bb29e590ed71417f474f32d92c9a38e"), looks := false }, kinds := [], alts := [], laidByText := true, laidKinds := [.widerDeep], laidTests := true, laidLooks := .later }
def MaskFindsUptoCardSaid : Prop := Claim7.holds Tryd.pinned (.plain (OpenSpec.upto maskFindsSpec)) maskFindsUptoCard

/-- THE SECOND FORM's CARD OF 'mimesislaw09.MaskLegal'. -/
def maskLegalUptoCard : Claim7 := { stood := { row := maskLegalUptoRow, standIns := [], harness := (true, "aa4116468e752842b4586f27aaafd3cd9bb29e590ed71417f474f32d92c9a38e"), looks := false }, kinds := [], alts := [], laidByText := true, laidKinds := [.widerDeep], laidTests := true, laidLooks := .later }
def MaskLegalUptoCardSaid : Prop := Claim7.holds Tryd.pinned (.plain (OpenSpec.upto maskLegalSpec)) maskLegalUptoCard

/-- THE SECOND FORM's CARD OF 'mimesislaw09.MaskNames'. -/
def maskNamesUptoCard : Claim7 := { stood := { row := maskNamesUptoRow, standIns := [], harness := (true, "aa4116468e752842b4586f27aaafd3cd9bb29e590ed71417f474f32d92c9a38e"), looks := false }, kinds := [], alts := [], laidByText := true, laidKinds := [.widerDeep], laidTests := true, laidLooks := .later }
def MaskNamesUptoCardSaid : Prop := Claim7.holds Tryd.pinned (.plain (OpenSpec.upto maskNamesSpec)) maskNamesUptoCard

/-- THE SECOND FORM's CARD OF 'mimesislaw09.MaskWrites'. -/
def maskWritesUptoCard : Claim7 := { stood := { row := maskWritesUptoRow, standIns := [], harness := (true, "aa4116468e752842b4586f27aaafd3cd9bb29e590ed71417f474f32d92c9a38e"), looks := false }, kinds := [], alts := [], laidByText := true, laidKinds := [.widerDeep], laidTests := true, laidLooks := .later }
def MaskWritesUptoCardSaid : Prop := Claim7.holds Tryd.pinned (.plain (OpenSpec.upto maskWritesSpec)) maskWritesUptoCard

/-- THE SECOND FORM's CARD OF 'mimesislaw16.CsrReads'. -/
def csrReadsUptoCard : Claim7 := { stood := { row := csrReadsUptoRow, standIns := [], harness := (true, "aa4116468e752842b4586f27aaafd3cd9bb29e590ed71417f474f32d92c9a38e"), looks := false }, kinds := [], alts := [], laidByText := true, laidKinds := [.widerDeep], laidTests := true, laidLooks := .later }
def CsrReadsUptoCardSaid : Prop := Claim7.holds Tryd.pinned (.plain (OpenSpec.upto csrReadsSpec)) csrReadsUptoCard

/-- THE SECOND FORM's CARD OF 'mimesislaw02.InstNames'. -/
def instNamesUptoCard : Claim7 := { stood := { row := instNamesUptoRow, standIns := [], harness := (true, "aa4116468e752842b4586f27aaafd3cd9bb29e590ed71417f474f32d92c9a38e"), looks := false }, kinds := [], alts := [], laidByText := true, laidKinds := [.data, .data], laidTests := true, laidLooks := .later }
def InstNamesUptoCardSaid : Prop := Claim7.holds Tryd.pinned (.plain (OpenSpec.upto instNamesSpec)) instNamesUptoCard

/-- THE SECOND FORM's CARD OF 'mimesislaw02.InstOps'. -/
def instOpsUptoCard : Claim7 := { stood := { row := instOpsUptoRow, standIns := [], harness := (true, "aa4116468e752842b4586f27aaafd3cd9bb29e590ed71417f474f32d92c9a38e"), looks := false }, kinds := [], alts := [], laidByText := true, laidKinds := [.data, .data], laidTests := true, laidLooks := .later }
def InstOpsUptoCardSaid : Prop := Claim7.holds Tryd.pinned (.plain (OpenSpec.upto instOpsSpec)) instOpsUptoCard

/-- THE SECOND FORM's CARD OF 'mimesislaw02.InstRight'. -/
def instRightUptoCard : Claim7 := { stood := { row := instRightUptoRow, standIns := [], harness := (true, "aa4116468e752842b4586f27aaafd3cd9bb29e590ed71417f474f32d92c9a38e"), looks := false }, kinds := [], alts := [], laidByText := true, laidKinds := [.data, .data], laidTests := true, laidLooks := .later }
def InstRightUptoCardSaid : Prop := Claim7.holds Tryd.pinned (.plain (OpenSpec.upto instRightSpec)) instRightUptoCard
end Rows
end Go.Proofs.YtnooikjkjcflbaaDoor
