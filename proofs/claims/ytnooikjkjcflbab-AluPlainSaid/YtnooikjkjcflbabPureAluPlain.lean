/- Proved: the pure statement of the law AluPlain: the instruction of two registers that reckons the same as any one; it does. Conditions: the numbers are of their kinds. -/
import Derived.Test.YtnooikjkjcflbabPAluPlainx1
namespace Go.Proofs.Ytnooikjkjcflbab.Pure
open Go.RowKit Go.Proofs.Ytnooikjkjcflbab.PAluPlain Go.Proofs.YtnooikjkjcflbabW.PrintWords Go.Proofs.YtnooikjkjcflbabW.PrintLast

theorem u32_of_wf {x : Int} (h : (Lit.int .u32 x).wf = true) : 0 ≤ x ∧ x ≤ 4294967295 := by
  have h0 : IntKind.u32.min = 0 := rfl
  have h1 : IntKind.u32.max = 4294967295 := rfl
  simp only [Lit.wf, Bool.and_eq_true, decide_eq_true_eq] at h
  omega
theorem awake_eq : mimesislaw07_awake.f = some true := by decide +kernel
def plainP (op : Int) : Int := if op = 19 then 28 else if op = 20 then 31 else if op = 21 then 32 else if op = 22 then 33 else if op = 23 then 36 else if op = 24 then 37 else if op = 25 then 30 else if op = 26 then 34 else if op = 27 then 35 else if 19 ≤ op ∧ op ≤ 37 then op else 0
theorem plain_eq (op : Int) : alu_Plain.f op = some (plainP op) := by
  unfold alu_Plain.f alu_Has.f plainP
  repeat' split
  all_goals simp_all
  all_goals omega
theorem rplain_eq (op : Int) : mimesisref07_Plain.f op = some (plainP op) := by
  unfold mimesisref07_Plain.f mimesisref07_Has.f
  by_cases h : 19 ≤ op ∧ op ≤ 37
  · by_cases h2 : op ≤ 27
    · rcases (by omega : op = 19 ∨ op = 20 ∨ op = 21 ∨ op = 22 ∨ op = 23 ∨ op = 24 ∨ op = 25 ∨ op = 26 ∨ op = 27) with rfl | rfl | rfl | rfl | rfl | rfl | rfl | rfl | rfl
      all_goals decide +kernel
    · have : plainP op = op := by
        unfold plainP
        repeat' split
        all_goals omega
      simp [h, h2, this]
  · have : plainP op = 0 := by
      unfold plainP
      repeat' split
      all_goals omega
    rw [this]
    by_cases h1 : 19 ≤ op
    · simp [h1]; omega
    · simp [h1]
theorem plain_idem (op : Int) : plainP (plainP op) = plainP op := by
  unfold plainP
  repeat' split
  all_goals omega
theorem do_plain (op a b : Int) : alu_Do.f (plainP op) a b = alu_Do.f op a b := by
  unfold alu_Do.f
  rw [plain_eq, plain_eq, plain_idem]
theorem AluPlain : mimesislaw07_AluPlain.Pure := by
  intro op a b _ ha hb
  unfold mimesislaw07_AluPlain.f
  rw [plain_eq, rplain_eq]
  simp only [Option.bind_some, if_true]
  rw [do_plain]
  have h : ∃ r, alu_Do.f op a b = some r := by
    have hs : 0 ≤ IntKind.u64.wrap (Go.bits .and .u32 b 31) := by rw [IntKind.wrap_u64]; omega
    unfold alu_Do.f alu_one.f
    rw [plain_eq]
    simp only [Option.bind_some]
    repeat' split
    all_goals simp_all
  obtain ⟨r, hr⟩ := h
  rw [hr]
  simp [awake_eq]
end Go.Proofs.Ytnooikjkjcflbab.Pure
