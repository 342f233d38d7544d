/- Proved: the pure statement of the law AluTakes: just one of a branch and its opposite is taken, and it is what the reference says. Conditions: the numbers are of their kinds. -/
import Derived.Test.YtnooikjkjcflbabPAluTakesx2
namespace Go.Proofs.Ytnooikjkjcflbab.Pure
open Go.RowKit Go.Proofs.Ytnooikjkjcflbab.PAluTakes Go.Proofs.YtnooikjkjcflbabW.PrintWords Go.Proofs.YtnooikjkjcflbabW.PrintLast

theorem u32_of_wf {x : Int} (h : (Lit.int .u32 x).wf = true) : 0 ≤ x ∧ x ≤ 4294967295 := by
  have h0 : IntKind.u32.min = 0 := rfl
  have h1 : IntKind.u32.max = 4294967295 := rfl
  simp only [Lit.wf, Bool.and_eq_true, decide_eq_true_eq] at h
  omega
theorem awake_eq : mimesislaw07_awake.f = some true := by decide +kernel
theorem sgn_eq (a : Int) (h : 0 ≤ a ∧ a ≤ 4294967295) : mimesisref01_Signed.f a = some (wrap32 a) := by
  unfold mimesisref01_Signed.f
  split <;> simp only [Option.some.injEq] <;> unfold wrap64 wrap32 <;> omega
theorem w32_inj (a b : Int) (h : 0 ≤ a ∧ a ≤ 4294967295) (k : 0 ≤ b ∧ b ≤ 4294967295) : (wrap32 a == wrap32 b) = (a == b) := by
  rw [Bool.eq_iff_iff]; simp only [beq_iff_eq]; unfold wrap32; omega
theorem AluTakes : mimesislaw07_AluTakes.Pure := by
  intro op a b _ ha hb
  have ha := u32_of_wf ha
  have hb := u32_of_wf hb
  refine ⟨3, ?_⟩
  by_cases ho : 5 ≤ op ∧ op ≤ 10
  · have w1 : wrap64 a = a := by unfold wrap64; omega
    have w2 : wrap64 b = b := by unfold wrap64; omega
    have w3 := w32_inj a b ha hb
    rcases (by omega : op = 5 ∨ op = 6 ∨ op = 7 ∨ op = 8 ∨ op = 9 ∨ op = 10) with rfl | rfl | rfl | rfl | rfl | rfl
    all_goals
      simp [mimesislaw07_AluTakes.f, mimesislaw07_AluTakes.j0, mimesislaw07_AluTakes.j1, alu_Taken.f, mimesisref07_Taken.f, awake_eq, sgn_eq a ha, sgn_eq b hb, w1, w2, w3, wrap64]
      try omega
    all_goals
      simp only [bne, w3]
      by_cases hab : a = b <;> simp [hab]
  · have k : ∀ n : Int, 5 ≤ n → n ≤ 10 → ¬ op = n := fun n h h' e => ho (by omega)
    by_cases h5 : op < 5
    · simp [mimesislaw07_AluTakes.f, mimesislaw07_AluTakes.j0, alu_Taken.f, awake_eq, k, h5]
    · have h6 : 10 < op := by omega
      simp [mimesislaw07_AluTakes.f, mimesislaw07_AluTakes.j0, alu_Taken.f, awake_eq, k, h5, h6]
end Go.Proofs.Ytnooikjkjcflbab.Pure
