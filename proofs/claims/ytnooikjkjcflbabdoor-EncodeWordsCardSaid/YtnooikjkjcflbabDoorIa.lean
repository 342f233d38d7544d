/- The wake-up of the laws of layer 2: it returns true; the two tables of forms are one. Conditions: the listed variables hold what the program's text lays in them. -/
import Derived.Test.YtnooikjkjcflbabDoorIr2
namespace Go.Proofs.YtnooikjkjcflbabDoor
open Go.RowKit
set_option linter.unusedVariables false
set_option linter.unusedSimpArgs false

theorem hit_self : ∀ i, i < 58 → hitB (nameAt i) i = true := by decide +kernel
theorem hit_only : ∀ i, i < 58 → ∀ k, k < 58 → hitB (nameAt i) k = true → k = i := by decide +kernel
theorem opIs_name {i : Nat} (hi : i < 58) {v x : Int} (h : OpIs (nameAt i) v x) : v = i ∧ x = 0 := by
  rcases h with ⟨k, hk, hh, _, rfl, rfl⟩ | ⟨hn, _⟩
  · rw [hit_only i hi k hk hh]; exact ⟨rfl, rfl⟩
  · exact absurd ((hn i hi).symm.trans (hit_self i hi)) (by decide)
theorem form_eq : ∀ i, i < 58 → rformV ((i : Nat) : Int) = formsAt i := by decide +kernel
theorem name_remu : (nameAt 57) = ⟨#[114, 101, 109, 117]⟩ := rfl
theorem awake2_c (w : World) (hn : NamesIs w) (hf : FormsIs w) : Calls Tryd.prog 14 #[] w fun e w' => e = .returned (.bool true) ∧ Below w.heap.size w w' := by
  have HN := Lib.hid hn
  have HF := Lib.hid hf
  clear hn hf
  have e1 : nameV 18 = ⟨#[115, 119]⟩ := rfl
  have e2 : hasE 18 = 0 := rfl
  have hop := op_c (nameAt 57) w HN.out
  rw [name_remu] at hop
  have HOP := Lib.hid hop
  clear hop
  have hr : rightB 28 31 0 0 0 0 = true := by decide +kernel
  go_enter Tryd.func14, Tryd.ntmps14
  go_wp2_with (first | (go_at_call 49; refine (name_c 18 _ HN.out).mono ?_; rintro e w' ⟨rfl, rfl⟩; rw [e1, e2]) | (go_at_call 50; refine HOP.out.mono ?_; rintro e w' ⟨⟨v, x, rfl, hv⟩, rfl⟩; obtain ⟨rfl, rfl⟩ := opIs_name (i := 57) (by decide) (name_remu ▸ hv)) | (go_at_call 44; refine (right_c 28 31 0 0 0 0 (by decide) _ HF.out).mono ?_; rintro e w' ⟨rfl, hb⟩; rw [hr]))
  go_ret
  exact ⟨rfl, hb⟩
end Go.Proofs.YtnooikjkjcflbabDoor
