/-
  DERIVED. GIVEN WITH THE SEED: THE PROGRAM's TIES (one call each: nine closed facts by the kernel) AND EACH ROW's TIE, after the 31st guide's Derived/Test/Toyas{Tie, Card}.lean. No idea stands in it: it is a product of the set-up. Laid BY PROGRAM, IN A SANDBOX (cutbox-door.mjs). By AI agents, Wed Nov 11 2026. No macro, syntax, notation, axiom, sorry.
-/
import Derived.Test.YtnooikjkjcflbacDoorRows
import Derived.LaidByTextLater
import Derived.SevenTiedAt
import Derived.LaidSub
import Derived.LaidOnce
namespace Go.Proofs.YtnooikjkjcflbacDoor
open Go
set_option maxRecDepth 100000
theorem seatTie1 : Tryd.prog.laidByTextLater [("mimesis/inst.names", Rows.laid_mimesis_inst_names), ("mimesis/inst.forms", Rows.laid_mimesis_inst_forms), ("mimesis/encode.matches", Rows.laid_mimesis_encode_matches)] [.data, .data, .data] true :=
  Program.laidByTextLater_by_one 24 8 59 (by kernel_rfl) (by kernel_rfl) (by kernel_rfl) (by kernel_rfl) (by kernel_rfl) (by kernel_rfl) (fun _ _ => by kernel_rfl)
theorem noOwnUnsafe : Tryd.pinned.checked.prog.headLifts.contains "ownunsafe" = false := by kernel_rfl
theorem tie : Tryd.prog.laidByTextLater [("mimesis/inst.forms", Rows.laid_mimesis_inst_forms)] [.data] true :=
  Program.laidByTextLater.sub seatTie1 ["mimesis/inst.forms"] (by kernel_rfl) (by kernel_rfl)
theorem decodeApart_row_tie : Rows.decodeApartRow.laidByTextAt .later Tryd.pinned [.data] true :=
  OpenClaim.laidByTextAt_later rfl rfl tie noOwnUnsafe
theorem decodeTurned_row_tie : Rows.decodeTurnedRow.laidByTextAt .later Tryd.pinned [.data] true :=
  OpenClaim.laidByTextAt_later rfl rfl tie noOwnUnsafe
theorem decodeAll_row_tie : Rows.decodeAllRow.laidByTextAt .later Tryd.pinned [.data] true :=
  OpenClaim.laidByTextAt_later rfl rfl tie noOwnUnsafe
theorem tie2 : Tryd.prog.laidByTextLater [("mimesis/inst.names", Rows.laid_mimesis_inst_names)] [.data] true :=
  Program.laidByTextLater.sub seatTie1 ["mimesis/inst.names"] (by kernel_rfl) (by kernel_rfl)
theorem irChecks_row_tie : Rows.irChecksRow.laidByTextAt .later Tryd.pinned [.data] true :=
  OpenClaim.laidByTextAt_later rfl rfl tie2 noOwnUnsafe
theorem irTexts_row_tie : Rows.irTextsRow.laidByTextAt .later Tryd.pinned [.data] true :=
  OpenClaim.laidByTextAt_later rfl rfl tie2 noOwnUnsafe
theorem irUses_row_tie : Rows.irUsesRow.laidByTextAt .later Tryd.pinned [.data] true :=
  OpenClaim.laidByTextAt_later rfl rfl tie2 noOwnUnsafe
theorem tie3 : Tryd.prog.laidByTextLater [("mimesis/inst.forms", Rows.laid_mimesis_inst_forms), ("mimesis/encode.matches", Rows.laid_mimesis_encode_matches)] [.data, .data] true :=
  Program.laidByTextLater.sub seatTie1 ["mimesis/inst.forms", "mimesis/encode.matches"] (by kernel_rfl) (by kernel_rfl)
theorem encodeBack_row_tie : Rows.encodeBackRow.laidByTextAt .later Tryd.pinned [.data, .data] true :=
  OpenClaim.laidByTextAt_later rfl rfl tie3 noOwnUnsafe
theorem decodeApartUpto_row_tie : Rows.decodeApartUptoRow.laidByTextAt .later Tryd.pinned [.data] true :=
  OpenClaim.laidByTextAt_later rfl rfl tie noOwnUnsafe
theorem decodeTurnedUpto_row_tie : Rows.decodeTurnedUptoRow.laidByTextAt .later Tryd.pinned [.data] true :=
  OpenClaim.laidByTextAt_later rfl rfl tie noOwnUnsafe
theorem decodeAllUpto_row_tie : Rows.decodeAllUptoRow.laidByTextAt .later Tryd.pinned [.data] true :=
  OpenClaim.laidByTextAt_later rfl rfl tie noOwnUnsafe
theorem irChecksUpto_row_tie : Rows.irChecksUptoRow.laidByTextAt .later Tryd.pinned [.data] true :=
  OpenClaim.laidByTextAt_later rfl rfl tie2 noOwnUnsafe
theorem irTextsUpto_row_tie : Rows.irTextsUptoRow.laidByTextAt .later Tryd.pinned [.data] true :=
  OpenClaim.laidByTextAt_later rfl rfl tie2 noOwnUnsafe
theorem irUsesUpto_row_tie : Rows.irUsesUptoRow.laidByTextAt .later Tryd.pinned [.data] true :=
  OpenClaim.laidByTextAt_later rfl rfl tie2 noOwnUnsafe
theorem encodeBackUpto_row_tie : Rows.encodeBackUptoRow.laidByTextAt .later Tryd.pinned [.data, .data] true :=
  OpenClaim.laidByTextAt_later rfl rfl tie3 noOwnUnsafe
end Go.Proofs.YtnooikjkjcflbacDoor
