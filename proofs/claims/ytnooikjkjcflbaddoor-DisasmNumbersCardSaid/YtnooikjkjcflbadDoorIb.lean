/- The program's test of an instruction and the reference's are one. Conditions: words are words. -/
import Derived.Test.YtnooikjkjcflbadDoorIr3
import Derived.Test.YtnooikjkjcflbadDoorIa
namespace Go.Proofs.YtnooikjkjcflbadDoor
open Go.RowKit
set_option linter.unusedVariables false
set_option linter.unusedSimpArgs false

theorem form_same {op : Int} (h : hasB op = true) : formV op = rformV op := by
  obtain ⟨h0, h1⟩ := has_t h
  obtain ⟨i, rfl⟩ := Int.eq_ofNat_of_zero_le h0
  rw [formV, if_pos h, form_eq i (by omega)]; rfl
theorem right_same (op rd rs1 rs2 imm csr : Int) (hi : 0 ≤ imm ∧ imm ≤ 4294967295) : rightB op rd rs1 rs2 imm csr = rrightB op rd rs1 rs2 imm csr := by
  rcases Bool.eq_false_or_eq_true (hasB op) with h | h
  · have hf := form_same h
    have hr := rform_rng op
    simp only [rightB, rrightB, h, hf, Bool.true_and]
    generalize rformV op = f at *
    clear hf h
    rcases (by omega : f = 0 ∨ f = 1 ∨ f = 2 ∨ f = 3 ∨ f = 4 ∨ f = 5 ∨ f = 6 ∨ f = 7 ∨ f = 8 ∨ f = 9) with rfl | rfl | rfl | rfl | rfl | rfl | rfl | rfl | rfl | rfl
    all_goals
      rw [Bool.eq_iff_iff]
      simp [onlyB, oRd, oRs1, oRs2, oImm, oCsr, regB, rregB, numB, evB, rimmB, rsigB]
      try grind
  · simp [rightB, rrightB, h]
end Go.Proofs.YtnooikjkjcflbadDoor
