/-
  DERIVED. GIVEN WITH THE SEED: THE PROGRAM's TIES (one call each: nine closed facts by the kernel) AND EACH ROW's TIE, after the 31st guide's Derived/Test/Toyas{Tie, Card}.lean. No idea stands in it: it is a product of the set-up. Laid BY PROGRAM, IN A SANDBOX (cutbox-door.mjs). By AI agents, Wed Nov 11 2026. No macro, syntax, notation, axiom, sorry.
-/
import Derived.Test.YtnooikjkjcflbabDoorRows
import Derived.LaidByTextLater
import Derived.SevenTiedAt
import Derived.LaidSub
import Derived.LaidOnce
namespace Go.Proofs.YtnooikjkjcflbabDoor
open Go
set_option maxRecDepth 100000
theorem seatTie1 : Tryd.prog.laidByTextLater [("mimesis/inst.names", Rows.laid_mimesis_inst_names), ("mimesis/inst.forms", Rows.laid_mimesis_inst_forms), ("mimesis/encode.matches", Rows.laid_mimesis_encode_matches)] [.data, .data, .data] true :=
  Program.laidByTextLater_by_one 52 8 93 (by kernel_rfl) (by kernel_rfl) (by kernel_rfl) (by kernel_rfl) (by kernel_rfl) (by kernel_rfl) (fun _ _ => by kernel_rfl)
theorem seatTie2 : Tryd.prog.laidByTextLater [("mimesis/mask.rows", Rows.laid_mimesis_mask_rows)] [.widerDeep] true :=
  Program.laidByTextLater_by_one 52 8 93 (by kernel_rfl) (by kernel_rfl) (by kernel_rfl) (by kernel_rfl) (by kernel_rfl) (by kernel_rfl) (fun _ _ => by kernel_rfl)
theorem noOwnUnsafe : Tryd.pinned.checked.prog.headLifts.contains "ownunsafe" = false := by kernel_rfl
theorem tie : Tryd.prog.laidByTextLater [("mimesis/inst.names", Rows.laid_mimesis_inst_names), ("mimesis/inst.forms", Rows.laid_mimesis_inst_forms)] [.data, .data] true :=
  Program.laidByTextLater.sub seatTie1 ["mimesis/inst.names", "mimesis/inst.forms"] (by kernel_rfl) (by kernel_rfl)
theorem instUses_row_tie : Rows.instUsesRow.laidByTextAt .later Tryd.pinned [.data, .data] true :=
  OpenClaim.laidByTextAt_later rfl rfl tie noOwnUnsafe
theorem instKinds_row_tie : Rows.instKindsRow.laidByTextAt .later Tryd.pinned [.data, .data] true :=
  OpenClaim.laidByTextAt_later rfl rfl tie noOwnUnsafe
theorem tie2 : Tryd.prog.laidByTextLater [("mimesis/inst.forms", Rows.laid_mimesis_inst_forms), ("mimesis/encode.matches", Rows.laid_mimesis_encode_matches)] [.data, .data] true :=
  Program.laidByTextLater.sub seatTie1 ["mimesis/inst.forms", "mimesis/encode.matches"] (by kernel_rfl) (by kernel_rfl)
theorem encodeWords_row_tie : Rows.encodeWordsRow.laidByTextAt .later Tryd.pinned [.data, .data] true :=
  OpenClaim.laidByTextAt_later rfl rfl tie2 noOwnUnsafe
theorem encodeConstants_row_tie : Rows.encodeConstantsRow.laidByTextAt .later Tryd.pinned [.data, .data] true :=
  OpenClaim.laidByTextAt_later rfl rfl tie2 noOwnUnsafe
theorem encodeLists_row_tie : Rows.encodeListsRow.laidByTextAt .later Tryd.pinned [.data, .data] true :=
  OpenClaim.laidByTextAt_later rfl rfl tie2 noOwnUnsafe
theorem tie3 : Tryd.prog.laidByTextLater [("mimesis/mask.rows", Rows.laid_mimesis_mask_rows)] [.widerDeep] true :=
  Program.laidByTextLater.sub seatTie2 ["mimesis/mask.rows"] (by kernel_rfl) (by kernel_rfl)
theorem csrWrites_row_tie : Rows.csrWritesRow.laidByTextAt .later Tryd.pinned [.widerDeep] true :=
  OpenClaim.laidByTextAt_later rfl rfl tie3 noOwnUnsafe
theorem tie4 : Tryd.prog.laidByTextLater [("mimesis/inst.forms", Rows.laid_mimesis_inst_forms)] [.data] true :=
  Program.laidByTextLater.sub seatTie1 ["mimesis/inst.forms"] (by kernel_rfl) (by kernel_rfl)
theorem decodeWords_row_tie : Rows.decodeWordsRow.laidByTextAt .later Tryd.pinned [.data] true :=
  OpenClaim.laidByTextAt_later rfl rfl tie4 noOwnUnsafe
theorem decodeRight_row_tie : Rows.decodeRightRow.laidByTextAt .later Tryd.pinned [.data] true :=
  OpenClaim.laidByTextAt_later rfl rfl tie4 noOwnUnsafe
theorem instUsesUpto_row_tie : Rows.instUsesUptoRow.laidByTextAt .later Tryd.pinned [.data, .data] true :=
  OpenClaim.laidByTextAt_later rfl rfl tie noOwnUnsafe
theorem instKindsUpto_row_tie : Rows.instKindsUptoRow.laidByTextAt .later Tryd.pinned [.data, .data] true :=
  OpenClaim.laidByTextAt_later rfl rfl tie noOwnUnsafe
theorem encodeWordsUpto_row_tie : Rows.encodeWordsUptoRow.laidByTextAt .later Tryd.pinned [.data, .data] true :=
  OpenClaim.laidByTextAt_later rfl rfl tie2 noOwnUnsafe
theorem csrWritesUpto_row_tie : Rows.csrWritesUptoRow.laidByTextAt .later Tryd.pinned [.widerDeep] true :=
  OpenClaim.laidByTextAt_later rfl rfl tie3 noOwnUnsafe
theorem encodeConstantsUpto_row_tie : Rows.encodeConstantsUptoRow.laidByTextAt .later Tryd.pinned [.data, .data] true :=
  OpenClaim.laidByTextAt_later rfl rfl tie2 noOwnUnsafe
theorem encodeListsUpto_row_tie : Rows.encodeListsUptoRow.laidByTextAt .later Tryd.pinned [.data, .data] true :=
  OpenClaim.laidByTextAt_later rfl rfl tie2 noOwnUnsafe
theorem decodeWordsUpto_row_tie : Rows.decodeWordsUptoRow.laidByTextAt .later Tryd.pinned [.data] true :=
  OpenClaim.laidByTextAt_later rfl rfl tie4 noOwnUnsafe
theorem decodeRightUpto_row_tie : Rows.decodeRightUptoRow.laidByTextAt .later Tryd.pinned [.data] true :=
  OpenClaim.laidByTextAt_later rfl rfl tie4 noOwnUnsafe
end Go.Proofs.YtnooikjkjcflbabDoor
