/- Contract of the laws' example of layer 4: it returns true. Conditions: the listed variables hold what the program's text lays in them. -/
import Derived.Test.YtnooikjkjcflbabDoorEc
namespace Go.Proofs.YtnooikjkjcflbabDoor
open Go.RowKit
set_option linter.unusedVariables false
set_option linter.unusedSimpArgs false

theorem enc_a : rightB 19 1 0 0 10 0 = true ∧ encV 19 1 0 0 10 0 = 10485907 ∧ matV 48 = 807403635 ∧ matE 48 = 0 := by decide +kernel
theorem awake4_c (W : World) (hf : FormsIs W) (hm : MatchesIs W) : Calls Tryd.prog 25 #[] W fun e w' => e = .returned (.bool true) ∧ Below W.heap.size W w' := by
  have h1 := enc_ok 19 1 0 0 10 0 (by decide) (by decide) enc_a.1 W hf hm
  rw [enc_a.2.1] at h1
  have h2 := fun (v : World) (hv : MatchesIs v) => match_t 48 v hv
  rw [enc_a.2.2.1, enc_a.2.2.2] at h2
  have H1 := Lib.hid h1
  have H2 := Lib.hid h2
  have HM := Lib.hid hm
  clear h1 h2 hf hm
  go_enter Tryd.func25, Tryd.ntmps25
  go_wp2_with fail
  refine H1.out.mono ?_
  rintro e w1 ⟨rfl, hb1⟩
  have HB1 := Lib.hid hb1
  clear hb1
  go_wp2_with fail
  refine (H2.out _ (HM.out.below HB1.out)).mono ?_
  rintro e w' ⟨rfl, rfl⟩
  go_wp2
  go_ret
  exact ⟨rfl, HB1.out⟩
end Go.Proofs.YtnooikjkjcflbabDoor
