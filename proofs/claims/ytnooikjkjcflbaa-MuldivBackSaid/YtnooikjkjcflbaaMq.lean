/- Plain arithmetic: what muldiv.Do reckons is what the reference reckons. Conditions: both are words, the instruction is one of the eight. -/
import Derived.Test.YtnooikjkjcflbaaMp
namespace Go.Proofs.Ytnooikjkjcflbaa
open Go.RowKit

theorem negB_t (a : Int) (ha' : a ≤ 4294967295) (h : 2147483648 ≤ a) : negB a = true := by unfold negB; simp; omega
theorem negB_f (a : Int) (ha : 0 ≤ a) (h : a < 2147483648) : negB a = false := by unfold negB; simp; omega
theorem high_eq (n : Int) : highP n = n / 4294967296 % 4294967296 := by unfold highP; split <;> omega
theorem up_mulhu (a b : Int) (ha : 0 ≤ a) (ha' : a ≤ 4294967295) (hb : 0 ≤ b) (hb' : b ≤ 4294967295) : upP a b false false = a * b / 4294967296 := by
  simp [upP, wide_eq a b ha ha' hb hb']
theorem sgn_mul (a b : Int) : (a - 4294967296) * (b - 4294967296) = a * b - 4294967296 * a - 4294967296 * b + 18446744073709551616 := by grind
theorem sgn_mul1 (a b : Int) : (a - 4294967296) * b = a * b - 4294967296 * b := by grind
theorem sgn_mul2 (a b : Int) : a * (b - 4294967296) = a * b - 4294967296 * a := by grind
theorem mul_bd2 (a b : Int) (ha : 2147483648 ≤ a) (ha' : a ≤ 4294967295) (hb : 2147483648 ≤ b) (hb' : b ≤ 4294967295) : a * b ≤ 4294967296 * a + 4294967296 * b - 18446744073709551616 + 4611686018427387904 ∧ 4294967296 * a + 4294967296 * b - 18446744073709551616 ≤ a * b := by
  have h := sgn_mul a b
  have h1 : 0 ≤ (4294967296 - a) * (4294967296 - b) := Int.mul_nonneg (by omega) (by omega)
  have h2 : (4294967296 - a) * (4294967296 - b) ≤ 2147483648 * 2147483648 := Int.mul_le_mul (by omega) (by omega) (by omega) (by omega)
  have h3 : (4294967296 - a) * (4294967296 - b) = (a - 4294967296) * (b - 4294967296) := by grind
  omega
theorem up_mulh (a b : Int) (ha : 0 ≤ a) (ha' : a ≤ 4294967295) (hb : 0 ≤ b) (hb' : b ≤ 4294967295) : upP a b true true = highP (wrap64 (sgn a * sgn b)) := by
  have hp := mul_bd a b ha ha' hb hb'
  rw [high_eq]
  simp only [upP, wide_eq a b ha ha' hb hb', Bool.true_and]
  unfold sgn
  by_cases h : 2147483648 ≤ a <;> by_cases k : 2147483648 ≤ b
  · have hq := mul_bd2 a b h ha' k hb'
    rw [negB_t a ha' h, negB_t b hb' k, if_pos h, if_pos k, if_pos rfl, if_pos rfl, sgn_mul]
    generalize a * b = p at *
    unfold wrap64
    omega
  · have hq : a * b ≤ 4294967295 * 2147483647 := Int.mul_le_mul ha' (by omega) hb (by omega)
    rw [negB_t a ha' h, negB_f b hb (by omega), if_pos h, if_neg k, if_pos rfl, if_neg (by decide), sgn_mul1]
    generalize a * b = p at *
    unfold wrap64
    omega
  · have hq : a * b ≤ 2147483647 * 4294967295 := Int.mul_le_mul (by omega) hb' hb (by omega)
    rw [negB_f a ha (by omega), negB_t b hb' k, if_neg h, if_pos k, if_pos rfl, if_neg (by decide), sgn_mul2]
    generalize a * b = p at *
    unfold wrap64
    omega
  · have hq : a * b ≤ 2147483647 * 2147483647 := Int.mul_le_mul (by omega) (by omega) hb (by omega)
    rw [negB_f a ha (by omega), negB_f b hb (by omega), if_neg h, if_neg k, if_neg (by decide), if_neg (by decide)]
    generalize a * b = p at *
    unfold wrap64
    omega
theorem up_mulhsu (a b : Int) (ha : 0 ≤ a) (ha' : a ≤ 4294967295) (hb : 0 ≤ b) (hb' : b ≤ 4294967295) : upP a b true false = highP (wrap64 (sgn a * b)) := by
  have hp := mul_bd a b ha ha' hb hb'
  rw [high_eq]
  simp only [upP, wide_eq a b ha ha' hb hb', Bool.true_and, Bool.false_and, Bool.false_eq_true, if_false]
  unfold sgn
  by_cases h : 2147483648 ≤ a
  · have hq : 2147483648 * b ≤ a * b := Int.mul_le_mul_of_nonneg_right h hb
    rw [negB_t a ha' h, if_pos h, if_pos rfl, sgn_mul1]
    generalize a * b = p at *
    unfold wrap64
    omega
  · have hq : a * b ≤ 2147483647 * 4294967295 := Int.mul_le_mul (by omega) hb' hb (by omega)
    rw [negB_f a ha (by omega), if_neg h, if_neg (by decide)]
    generalize a * b = p at *
    unfold wrap64
    omega
theorem size_sgn (a : Int) (ha : 0 ≤ a) (ha' : a ≤ 4294967295) : sizeP a = if negB a = true then -sgn a else sgn a := by
  unfold sizeP sgn
  show (if negB a = true then _ else _) = _
  by_cases h : 2147483648 ≤ a
  · rw [negB_t a ha' h, if_pos rfl, if_pos rfl, if_pos h]; omega
  · rw [negB_f a ha (by omega), if_neg (by decide), if_neg (by decide), if_neg h]
theorem sgn_neg (a : Int) (ha : 0 ≤ a) (ha' : a ≤ 4294967295) : (negB a = true → sgn a < 0) ∧ (negB a = false → 0 ≤ sgn a) := by
  unfold sgn
  by_cases h : 2147483648 ≤ a
  · rw [negB_t a ha' h, if_pos h]; exact ⟨fun _ => by omega, by simp⟩
  · rw [negB_f a ha (by omega), if_neg h]; exact ⟨by simp, fun _ => by omega⟩
theorem quo_eq (a b : Int) (ha : 0 ≤ a) (ha' : a ≤ 4294967295) (hb : 0 ≤ b) (hb' : b ≤ 4294967295) : quoP a b = (sgn a).tdiv (sgn b) % 4294967296 := by
  obtain ⟨p1, p2⟩ := sgn_neg a ha ha'
  obtain ⟨q1, q2⟩ := sgn_neg b hb hb'
  obtain ⟨s1, s2, _⟩ := sgn_bd a ha ha'
  unfold quoP
  rw [size_sgn a ha ha', size_sgn b hb hb']
  generalize sgn a = x at *
  generalize sgn b = y at *
  cases hx : negB a <;> cases hy : negB b <;> simp only [hx, hy, forall_const, Bool.false_eq_true, if_true, if_false, false_implies, bne_self_eq_false, Bool.bne_true, Bool.not_false, Bool.bne_false, true_implies, reduceCtorEq] at p1 p2 q1 q2 ⊢
  · rw [Int.tdiv_eq_ediv_of_nonneg p2]
    have h3 : 0 ≤ x / y := Int.ediv_nonneg p2 q2
    have h4 : x / y ≤ x := Int.ediv_le_self _ p2
    omega
  · rw [show y = -(-y) by omega, Int.tdiv_neg, Int.tdiv_eq_ediv_of_nonneg p2, Int.neg_neg]
  · rw [show x = -(-x) by omega, Int.neg_tdiv, Int.tdiv_eq_ediv_of_nonneg (by omega), Int.neg_neg]
  · rw [show x = -(-x) by omega, show y = -(-y) by omega, Int.neg_tdiv, Int.tdiv_neg, Int.tdiv_eq_ediv_of_nonneg (by omega), Int.neg_neg, Int.neg_neg, Int.neg_neg]
    have h3 : 0 ≤ -x / -y := Int.ediv_nonneg (by omega) (by omega)
    have h4 : -x / -y ≤ -x := Int.ediv_le_self _ (by omega)
    omega
theorem rem_eq (a b : Int) (ha : 0 ≤ a) (ha' : a ≤ 4294967295) (hb : 0 ≤ b) (hb' : b ≤ 4294967295) : remP a b = (sgn a).tmod (sgn b) % 4294967296 := by
  obtain ⟨p1, p2⟩ := sgn_neg a ha ha'
  obtain ⟨s1, s2, _⟩ := sgn_bd a ha ha'
  obtain ⟨t1, t2, _⟩ := sgn_bd b hb hb'
  unfold remP
  rw [size_sgn a ha ha', size_sgn b hb hb']
  have hy : (if negB b = true then -sgn b else sgn b) = sgn b ∨ (if negB b = true then -sgn b else sgn b) = -sgn b := by split <;> simp
  generalize (if negB b = true then -sgn b else sgn b) = z at *
  generalize sgn a = x at *
  generalize sgn b = y at *
  have hm : ∀ t : Int, t % z = t % y := fun t => by rcases hy with rfl | rfl; rfl; exact Int.emod_neg ..
  rw [hm]
  cases hx : negB a <;> simp only [hx, forall_const, Bool.false_eq_true, if_true, if_false, false_implies, reduceCtorEq] at p1 p2 ⊢
  · rw [Int.tmod_eq_emod_of_nonneg p2]
    by_cases h0 : y = 0
    · subst h0; simp; omega
    · have h3 := Int.emod_nonneg x h0
      have h4 := Int.emod_lt x h0
      omega
  · rw [show x = -(-x) by omega, Int.neg_tmod, Int.tmod_eq_emod_of_nonneg (by omega), Int.neg_neg]
theorem do_eq (op a b : Int) (ho : 50 ≤ op) (ho' : op ≤ 57) (ha : 0 ≤ a) (ha' : a ≤ 4294967295) (hb : 0 ≤ b) (hb' : b ≤ 4294967295) : doV op a b = rdoP op a b := by
  have hp := mul_bd a b ha ha' hb hb'
  by_cases h0 : b = 0
  · subst h0
    rcases (by omega : op = 50 ∨ op = 51 ∨ op = 52 ∨ op = 53 ∨ op = 54 ∨ op = 55 ∨ op = 56 ∨ op = 57) with rfl | rfl | rfl | rfl | rfl | rfl | rfl | rfl
    all_goals simp [doV, rdoP, qrP, up_mulh a 0 ha ha' hb hb', up_mulhsu a 0 ha ha' hb hb', up_mulhu a 0 ha ha' hb hb']
  · rcases (by omega : op = 50 ∨ op = 51 ∨ op = 52 ∨ op = 53 ∨ op = 54 ∨ op = 55 ∨ op = 56 ∨ op = 57) with rfl | rfl | rfl | rfl | rfl | rfl | rfl | rfl
    all_goals simp [doV, rdoP, qrP, h0, up_mulh a b ha ha' hb hb', up_mulhsu a b ha ha' hb hb', up_mulhu a b ha ha' hb hb', quo_eq a b ha ha' hb hb', rem_eq a b ha ha' hb hb']
end Go.Proofs.Ytnooikjkjcflbaa
