/- Contracts of the reference functions of layers 1 and 8, of muldiv.Do and of the law package's awake. Conditions: the arguments are words. -/
import Derived.Test.YtnooikjkjcflbaaMd3
namespace Go.Proofs.Ytnooikjkjcflbaa
open Go.RowKit

theorem ret_u32 {a b : Int} (h : a = b) : Ending.returned (.int .u32 a) = .returned (.int .u32 b) := by rw [h]
theorem ret_i64 {a b : Int} (h : a = b) : Ending.returned (.int .i64 a) = .returned (.int .i64 b) := by rw [h]
def sgn (a : Int) : Int := if 2147483648 ≤ a then a - 4294967296 else a
theorem sgn_c (a : Int) (h : 0 ≤ a) (h' : a ≤ 4294967295) (w : World) : Calls Try.prog 15 #[.int .u32 a] w fun e w' => e = .returned (.int .i64 (sgn a)) ∧ w = w' := by
  unfold sgn
  by_cases k : 2147483648 ≤ a
  all_goals
    simp only [k, if_true, if_false]
    go_enter Try.func15, Try.ntmps15
    go_wp2
    go_ret
    exact ⟨by first | rfl | (simp; done), rfl⟩
theorem word_c (n : Int) (w : World) : Calls Try.prog 17 #[.int .i64 n] w fun e w' => e = .returned (.int .u32 (n % 4294967296)) ∧ w = w' := by
  go_enter Try.func17, Try.ntmps17
  go_wp2
  go_ret
  refine ⟨?_, rfl⟩
  simp
  rw [IntKind.wrap_u64, Int.tmod_eq_emod_of_nonneg (by omega)]
  omega
def highP (n : Int) : Int := if 0 ≤ n then n / 4294967296 % 4294967296 else (0 - (0 - (n + 1)) / 4294967296 - 1) % 4294967296
theorem high_c (n : Int) (h : -9223372036854775808 ≤ n) (h' : n ≤ 9223372036854775807) (w : World) : Calls Try.prog 16 #[.int .i64 n] w fun e w' => e = .returned (.int .u32 (highP n)) ∧ w = w' := by
  unfold highP
  by_cases k : 0 ≤ n
  · simp only [k, if_true]
    go_enter Try.func16, Try.ntmps16
    go_wp2_with (go_at_call 17; refine (word_c _ _).mono ?_; rintro e w' ⟨rfl, rfl⟩)
    go_ret
    exact ⟨by first | rfl | (simp; done), rfl⟩
  · simp only [k, if_false]
    go_enter Try.func16, Try.ntmps16
    go_wp2_with (go_at_call 17; refine (word_c _ _).mono ?_; rintro e w' ⟨rfl, rfl⟩)
    go_ret
    refine ⟨?_, rfl⟩
    have e : (n + 1).tdiv 4294967296 = -(-(n + 1) / 4294967296) := by
      rw [show n + 1 = -(-(n + 1)) by omega, Int.neg_tdiv, Int.tdiv_eq_ediv_of_nonneg (by omega)]; simp
    simp [e]
    unfold wrap64
    omega

def rdoP (op a b : Int) : Int :=
  if op = 50 then a * b % 4294967296
  else if op = 51 then highP (wrap64 (sgn a * sgn b))
  else if op = 52 then highP (wrap64 (sgn a * b))
  else if op = 53 then a * b / 4294967296
  else if b = 0 then (if op = 54 ∨ op = 55 then 4294967295 else a)
  else if op = 54 then (sgn a).tdiv (sgn b) % 4294967296
  else if op = 56 then (sgn a).tmod (sgn b) % 4294967296
  else if op = 55 then a / b
  else a % b
theorem wrap64_bd (x : Int) : -9223372036854775808 ≤ wrap64 x ∧ wrap64 x ≤ 9223372036854775807 := by unfold wrap64; omega
theorem sgn_bd (a : Int) (h : 0 ≤ a) (h' : a ≤ 4294967295) : -2147483648 ≤ sgn a ∧ sgn a ≤ 2147483647 ∧ (sgn a = 0 → a = 0) := by unfold sgn; split <;> omega
theorem mul_bd (a b : Int) (ha : 0 ≤ a) (ha' : a ≤ 4294967295) (hb : 0 ≤ b) (hb' : b ≤ 4294967295) : 0 ≤ a * b ∧ a * b ≤ 18446744065119617025 := by
  refine ⟨Int.mul_nonneg ha hb, ?_⟩
  have := Int.mul_le_mul ha' hb' hb (by omega : (0 : Int) ≤ 4294967295)
  omega
theorem mod_a (x : Int) (h : 0 ≤ x) (h' : x ≤ 18446744065119617025) : (IntKind.u64.wrap x).tmod 4294967296 % 4294967296 = x % 4294967296 := by
  rw [IntKind.wrap_u64, Int.tmod_eq_emod_of_nonneg (by omega)]; omega
theorem mod_b (x : Int) (h : 0 ≤ x) (h' : x ≤ 18446744065119617025) : IntKind.u64.wrap ((IntKind.u64.wrap x).tdiv 4294967296) % 4294967296 = x / 4294967296 := by
  rw [IntKind.wrap_u64, IntKind.wrap_u64, Int.tdiv_eq_ediv_of_nonneg (by omega)]; omega
theorem mod_c (x : Int) : wrap64 x % 4294967296 = x % 4294967296 := by unfold wrap64; omega
set_option maxHeartbeats 4000000 in
theorem rdo_c (op a b : Int) (ho : 50 ≤ op) (ho' : op ≤ 57) (ha : 0 ≤ a) (ha' : a ≤ 4294967295) (hb : 0 ≤ b) (hb' : b ≤ 4294967295) (w : World) : Calls Try.prog 11 #[.int .i64 op, .int .u32 a, .int .u32 b] w fun e w' => e = .returned (.int .u32 (rdoP op a b)) ∧ w = w' := by
  have hp := Lib.hid (mul_bd a b ha ha' hb hb')
  by_cases hb0 : b = 0
  · subst hb0
    rcases (by omega : op = 50 ∨ op = 51 ∨ op = 52 ∨ op = 53 ∨ op = 54 ∨ op = 55 ∨ op = 56 ∨ op = 57) with rfl | rfl | rfl | rfl | rfl | rfl | rfl | rfl
    all_goals
      go_enter Try.func11, Try.ntmps11
      go_wp2_with (first | (go_at_call_of 15 (Value.int IntKind.u32 a); refine (sgn_c a ha ha' _).mono ?_; rintro e w' ⟨rfl, rfl⟩) | (go_at_call 15; refine (sgn_c 0 (by decide) (by decide) _).mono ?_; rintro e w' ⟨rfl, rfl⟩) | (go_at_call 16; refine (high_c _ (by first | exact (wrap64_bd _).1 | decide) (by first | exact (wrap64_bd _).2 | decide) _).mono ?_; rintro e w' ⟨rfl, rfl⟩) | (go_at_call 17; refine (word_c _ _).mono ?_; rintro e w' ⟨rfl, rfl⟩))
      go_ret
      refine ⟨?_, rfl⟩
      simp [rdoP, sgn, wrap64]
      try done
  · have hbb : (b == 0) = false := beq_eq_false_iff_ne.mpr hb0
    have hs0 : ¬ sgn b = 0 := fun h => hb0 ((sgn_bd b hb hb').2.2 h)
    rcases (by omega : op = 50 ∨ op = 51 ∨ op = 52 ∨ op = 53 ∨ op = 54 ∨ op = 55 ∨ op = 56 ∨ op = 57) with rfl | rfl | rfl | rfl | rfl | rfl | rfl | rfl
    all_goals
      go_enter Try.func11, Try.ntmps11
      go_wp2_with (first | (go_at_call_of 15 (Value.int IntKind.u32 a); refine (sgn_c a ha ha' _).mono ?_; rintro e w' ⟨rfl, rfl⟩) | (go_at_call 15; refine (sgn_c b hb hb' _).mono ?_; rintro e w' ⟨rfl, rfl⟩) | (go_at_call 16; refine (high_c _ (by first | exact (wrap64_bd _).1 | decide) (by first | exact (wrap64_bd _).2 | decide) _).mono ?_; rintro e w' ⟨rfl, rfl⟩) | (go_at_call 17; refine (word_c _ _).mono ?_; rintro e w' ⟨rfl, rfl⟩))
      go_ret
      refine ⟨?_, rfl⟩
      simp [rdoP, hb0]
      try (have hp := hp.out; first | exact mod_a _ hp.1 hp.2 | exact mod_b _ hp.1 hp.2 | exact mod_c _)

def doV (op a b : Int) : Int := if op = 50 then a * b % 4294967296 else if op = 51 then upP a b true true else if op = 52 then upP a b true false else if op = 53 then upP a b false false else if op = 54 then (qrP a b true).1 else if op = 55 then (qrP a b false).1 else if op = 56 then (qrP a b true).2 else if op = 57 then (qrP a b false).2 else 0
def doE (op : Int) : Int := if 50 ≤ op ∧ op ≤ 57 then 0 else 9
set_option maxHeartbeats 4000000 in
theorem do_c (op a b : Int) (ha : 0 ≤ a) (ha' : a ≤ 4294967295) (hb : 0 ≤ b) (hb' : b ≤ 4294967295) (w : World) : Calls Try.prog 7 #[.int .i64 op, .int .u32 a, .int .u32 b] w fun e w' => e = .returned (.tuple #[.int .u32 (doV op a b), .int .i64 (doE op)]) ∧ Below w.heap.size w w' := by
  by_cases ho : 50 ≤ op ∧ op ≤ 57
  · obtain ⟨ho, ho'⟩ := ho
    rcases (by omega : op = 50 ∨ op = 51 ∨ op = 52 ∨ op = 53 ∨ op = 54 ∨ op = 55 ∨ op = 56 ∨ op = 57) with rfl | rfl | rfl | rfl | rfl | rfl | rfl | rfl
    · go_enter Try.func7, Try.ntmps7
      go_wp2
      go_ret2
      exact ⟨by simp [doV, doE], Below.refl _ _⟩
    · go_enter Try.func7, Try.ntmps7
      go_wp2_with (go_at_call 13; refine (up_c a b true true _).mono ?_; rintro e w' ⟨rfl, rfl⟩)
      go_ret2
      exact ⟨by simp [doV, doE], Below.refl _ _⟩
    · go_enter Try.func7, Try.ntmps7
      go_wp2_with (go_at_call 13; refine (up_c a b true false _).mono ?_; rintro e w' ⟨rfl, rfl⟩)
      go_ret2
      exact ⟨by simp [doV, doE], Below.refl _ _⟩
    · go_enter Try.func7, Try.ntmps7
      go_wp2_with (go_at_call 13; refine (up_c a b false false _).mono ?_; rintro e w' ⟨rfl, rfl⟩)
      go_ret2
      exact ⟨by simp [doV, doE], Below.refl _ _⟩
    · go_enter Try.func7, Try.ntmps7
      go_wp2_with (go_at_call 14; refine (qr_c a b ha ha' hb hb' true _).mono ?_; rintro e w' ⟨rfl, hB⟩)
      go_ret2
      exact ⟨by simp [doV, doE], hB⟩
    · go_enter Try.func7, Try.ntmps7
      go_wp2_with (go_at_call 14; refine (qr_c a b ha ha' hb hb' false _).mono ?_; rintro e w' ⟨rfl, hB⟩)
      go_ret2
      exact ⟨by simp [doV, doE], hB⟩
    · go_enter Try.func7, Try.ntmps7
      go_wp2_with (go_at_call 14; refine (qr_c a b ha ha' hb hb' true _).mono ?_; rintro e w' ⟨rfl, hB⟩)
      go_ret2
      exact ⟨by simp [doV, doE], hB⟩
    · go_enter Try.func7, Try.ntmps7
      go_wp2_with (go_at_call 14; refine (qr_c a b ha ha' hb hb' false _).mono ?_; rintro e w' ⟨rfl, hB⟩)
      go_ret2
      exact ⟨by simp [doV, doE], hB⟩
  · have k : ∀ n : Int, 50 ≤ n → n ≤ 57 → (op == n) = false := fun n h h' => beq_eq_false_iff_ne.mpr (fun e => ho (by omega))
    have k0 := k 50 (by decide) (by decide)
    have k1 := k 51 (by decide) (by decide)
    have k2 := k 52 (by decide) (by decide)
    have k3 := k 53 (by decide) (by decide)
    have k4 := k 54 (by decide) (by decide)
    have k5 := k 55 (by decide) (by decide)
    have k6 := k 56 (by decide) (by decide)
    have k7 := k 57 (by decide) (by decide)
    have hv : doV op a b = 0 := by simp only [doV, ← beq_iff_eq (a := op), k0, k1, k2, k3, k4, k5, k6, k7]; rfl
    have he : doE op = 9 := by rw [doE, if_neg ho]
    rw [hv, he]
    clear k hv he ho
    go_enter Try.func7, Try.ntmps7
    go_wp2
    go_ret2
    exact ⟨rfl, Below.refl _ _⟩

theorem awake_c (w : World) : Calls Try.prog 10 #[] w fun e w' => e = .returned (.bool true) ∧ Below w.heap.size w w' := by
  go_enter Try.func10, Try.ntmps10
  go_wp2_with fail
  refine (do_c 54 4294967289 2 (by decide) (by decide) (by decide) (by decide) _).mono ?_
  rintro e w1 ⟨rfl, h1⟩
  rw [show doV 54 4294967289 2 = 4294967293 by decide, show doE 54 = 0 by decide]
  go_wp2_with fail
  refine (do_c 56 4294967289 2 (by decide) (by decide) (by decide) (by decide) _).mono ?_
  rintro e w2 ⟨rfl, h2⟩
  rw [show doV 56 4294967289 2 = 4294967295 by decide, show doE 56 = 0 by decide]
  go_wp2_with fail
  refine (has_c 57 _).mono ?_
  rintro e w3 ⟨rfl, rfl⟩
  go_wp2
  go_ret
  exact ⟨rfl, h1.trans (h2.mono h1.size)⟩
end Go.Proofs.Ytnooikjkjcflbaa
