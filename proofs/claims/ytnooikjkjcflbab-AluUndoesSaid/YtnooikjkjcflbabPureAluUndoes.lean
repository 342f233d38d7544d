/- Proved: the pure statement of the law AluUndoes: Sub undoes Add, Xor itself, a shift to the left by one is Add of itself, And and Or together are Add. Conditions: the numbers are words. -/
import Derived.Test.YtnooikjkjcflbabPAluUndoesx1
import Derived.Test.YtnooikjkjcflbabBt
namespace Go.Proofs.Ytnooikjkjcflbab.Pure
open Go.RowKit Go.Proofs.Ytnooikjkjcflbab.PAluUndoes Go.Proofs.YtnooikjkjcflbabW.PrintWords Go.Proofs.YtnooikjkjcflbabW.PrintLast Go.Proofs.YtnooikjkjcflbabW.PrintMore

theorem u32_of_wf {x : Int} (h : (Lit.int .u32 x).wf = true) : 0 ≤ x ∧ x ≤ 4294967295 := by
  have h0 : IntKind.u32.min = 0 := rfl
  have h1 : IntKind.u32.max = 4294967295 := rfl
  simp only [Lit.wf, Bool.and_eq_true, decide_eq_true_eq] at h
  omega
theorem awake_eq : mimesislaw07_awake.f = some true := by decide +kernel
theorem do28 (a b : Int) : alu_Do.f 28 a b = some ((a + b) % 4294967296, 0) := by simp [alu_Do.f, alu_Plain.f, alu_Has.f]
theorem do29 (a b : Int) : alu_Do.f 29 a b = some ((a + (-b) % 4294967296) % 4294967296, 0) := by simp [alu_Do.f, alu_Plain.f, alu_Has.f]
theorem do33 (a b : Int) : alu_Do.f 33 a b = some (Go.bits .xor .u32 a b, 0) := by simp [alu_Do.f, alu_Plain.f, alu_Has.f]
theorem do36 (a b : Int) : alu_Do.f 36 a b = some (Go.bits .or .u32 a b, 0) := by simp [alu_Do.f, alu_Plain.f, alu_Has.f]
theorem do37 (a b : Int) : alu_Do.f 37 a b = some (Go.bits .and .u32 a b, 0) := by simp [alu_Do.f, alu_Plain.f, alu_Has.f]
theorem do30 (a : Int) : alu_Do.f 30 a 1 = some ((a + a) % 4294967296, 0) := by
  have e : IntKind.u64.wrap (Go.bits .and .u32 1 31) = 1 := by decide +kernel
  simp only [alu_Do.f, alu_Plain.f, alu_Has.f, e]
  simp [shl, IntKind.bits, IntKind.wrap_u32]
  omega
theorem AluUndoes : mimesislaw07_AluUndoes.Pure := by
  intro a b ha hb
  have ha := u32_of_wf ha
  have hb := u32_of_wf hb
  unfold mimesislaw07_AluUndoes.f
  simp only [do28, do29, do33, do36, do37, do30, Option.bind_some, awake_eq, Bt.and_or_sum a b ha hb, Bt.xor_back a b ha hb]
  rw [if_pos (by omega)]
  simp
end Go.Proofs.Ytnooikjkjcflbab.Pure
