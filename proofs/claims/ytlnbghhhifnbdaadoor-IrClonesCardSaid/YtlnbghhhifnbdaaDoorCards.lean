/-
  DERIVED. GIVEN WITH THE SEED: THE CARDS: each row of YtlnbghhhifnbdaaDoorRows.lean that lists a variable, with what it lists TIED to the program's text (the seventh form; the later family's looks); each row that meets fmt, with fmt's text TOLD by the authors' own Lean function (tested against real Go, not proved from fmt's source: count such statements apart). THE CARD IS WHAT COUNTS. Prove the row's statement (the work); the ties are given (YtlnbghhhifnbdaaDoorTie.lean); close each card by the builder's one call (the guide's Derived/Test/ToyasCard.lean, 'card_holds'). Laid BY PROGRAM, IN A SANDBOX (cutbox-door.mjs). By AI agents, Wed Nov 11 2026. No macro, syntax, notation, axiom, sorry.
-/
import Derived.Test.YtlnbghhhifnbdaaDoorRows
import GoSem.ClaimSeven
namespace Go.Proofs.YtlnbghhhifnbdaaDoor
namespace Rows

/-- THE TIED CARD OF 'mimesislaw23.IrChecks'. -/
def irChecksCard : Claim7 := { stood := { row := irChecksRow, standIns := [], harness := (true, "afdf8d2276a76764a2c32c142a6a9d636ec0da01e506cca59c2ce3668c9605c4"), looks := false }, kinds := [], alts := [], laidByText := true, laidKinds := [.data], laidTests := true, laidLooks := .later }
def IrChecksCardSaid : Prop := Claim7.holds Tryd.pinned (.plain (OpenSpec.ofChange irChecksSpec)) irChecksCard

/-- THE TIED CARD OF 'mimesislaw23.IrTexts'. -/
def irTextsCard : Claim7 := { stood := { row := irTextsRow, standIns := [], harness := (true, "afdf8d2276a76764a2c32c142a6a9d636ec0da01e506cca59c2ce3668c9605c4"), looks := false }, kinds := [], alts := [], laidByText := true, laidKinds := [.data], laidTests := true, laidLooks := .later }
def IrTextsCardSaid : Prop := Claim7.holds Tryd.pinned (.plain (OpenSpec.ofChange irTextsSpec)) irTextsCard

/-- THE TIED CARD OF 'mimesislaw23.IrUses'. -/
def irUsesCard : Claim7 := { stood := { row := irUsesRow, standIns := [], harness := (true, "afdf8d2276a76764a2c32c142a6a9d636ec0da01e506cca59c2ce3668c9605c4"), looks := false }, kinds := [], alts := [], laidByText := true, laidKinds := [.data], laidTests := true, laidLooks := .later }
def IrUsesCardSaid : Prop := Claim7.holds Tryd.pinned (.plain (OpenSpec.ofChange irUsesSpec)) irUsesCard

/-- THE TIED CARD OF 'mimesislaw23.IrClones'. -/
def irClonesCard : Claim7 := { stood := { row := irClonesRow, standIns := [], harness := (true, "afdf8d2276a76764a2c32c142a6a9d636ec0da01e506cca59c2ce3668c9605c4"), looks := false }, kinds := [], alts := [], laidByText := true, laidKinds := [.data], laidTests := true, laidLooks := .later }
def IrClonesCardSaid : Prop := Claim7.holds Tryd.pinned (.plain (OpenSpec.ofChange irClonesSpec)) irClonesCard

/-- THE SECOND FORM's CARD OF 'mimesislaw23.IrChecks'. -/
def irChecksUptoCard : Claim7 := { stood := { row := irChecksUptoRow, standIns := [], harness := (true, "afdf8d2276a76764a2c32c142a6a9d636ec0da01e506cca59c2ce3668c9605c4"), looks := false }, kinds := [], alts := [], laidByText := true, laidKinds := [.data], laidTests := true, laidLooks := .later }
def IrChecksUptoCardSaid : Prop := Claim7.holds Tryd.pinned (.plain (OpenSpec.upto irChecksSpec)) irChecksUptoCard

/-- THE SECOND FORM's CARD OF 'mimesislaw23.IrTexts'. -/
def irTextsUptoCard : Claim7 := { stood := { row := irTextsUptoRow, standIns := [], harness := (true, "afdf8d2276a76764a2c32c142a6a9d636ec0da01e506cca59c2ce3668c9605c4"), looks := false }, kinds := [], alts := [], laidByText := true, laidKinds := [.data], laidTests := true, laidLooks := .later }
def IrTextsUptoCardSaid : Prop := Claim7.holds Tryd.pinned (.plain (OpenSpec.upto irTextsSpec)) irTextsUptoCard

/-- THE SECOND FORM's CARD OF 'mimesislaw23.IrUses'. -/
def irUsesUptoCard : Claim7 := { stood := { row := irUsesUptoRow, standIns := [], harness := (true, "afdf8d2276a76764a2c32c142a6a9d636ec0da01e506cca59c2ce3668c9605c4"), looks := false }, kinds := [], alts := [], laidByText := true, laidKinds := [.data], laidTests := true, laidLooks := .later }
def IrUsesUptoCardSaid : Prop := Claim7.holds Tryd.pinned (.plain (OpenSpec.upto irUsesSpec)) irUsesUptoCard

/-- THE SECOND FORM's CARD OF 'mimesislaw23.IrClones'. -/
def irClonesUptoCard : Claim7 := { stood := { row := irClonesUptoRow, standIns := [], harness := (true, "afdf8d2276a76764a2c32c142a6a9d636ec0da01e506cca59c2ce3668c9605c4"), looks := false }, kinds := [], alts := [], laidByText := true, laidKinds := [.data], laidTests := true, laidLooks := .later }
def IrClonesUptoCardSaid : Prop := Claim7.holds Tryd.pinned (.plain (OpenSpec.upto irClonesSpec)) irClonesUptoCard
end Rows
end Go.Proofs.YtlnbghhhifnbdaaDoor
