/- The walks of the four laws of layer 8: each returns true. Conditions: the words are words. -/
import Derived.Test.YtnooikjkjcflbaaMq
namespace Go.Proofs.Ytnooikjkjcflbaa
open Go.RowKit

theorem wide_law (a b : Int) (ha : 0 ≤ a) (ha' : a ≤ 4294967295) (hb : 0 ≤ b) (hb' : b ≤ 4294967295) : IntKind.u64.wrap (IntKind.u64.wrap (IntKind.u64.wrap (wideH a b) * 4294967296) + a * b % 4294967296) = IntKind.u64.wrap (a * b) := by
  have hp := mul_bd a b ha ha' hb hb'
  rw [wide_eq a b ha ha' hb hb']
  generalize a * b = p at *
  simp only [IntKind.wrap_u64]
  omega
theorem wide_w (a b : Int) (ha : 0 ≤ a) (ha' : a ≤ 4294967295) (hb : 0 ≤ b) (hb' : b ≤ 4294967295) (w : World) :
    Calls Try.prog 4 #[.int .u32 a, .int .u32 b] w fun e w' => e = .returned (.bool true) ∧ Below w.heap.size w w' := by
  have e1 := wide_law a b ha ha' hb hb'
  go_enter Try.func4, Try.ntmps4
  go_wp2_with (first | (go_at_call 12; refine (wide_c a b _).mono ?_; rintro e w' ⟨rfl, rfl⟩) | (go_at_call 10; refine (awake_c _).mono ?_; rintro e w' ⟨rfl, hB⟩))
  go_ret
  exact ⟨by simp, hB⟩

theorem back_u (a b : Int) (ha : 0 ≤ a) (ha' : a ≤ 4294967295) (hb : 0 ≤ b) (hb' : b ≤ 4294967295) : (doV 55 a b * b + doV 57 a b) % 4294967296 = a := by
  rw [do_eq 55 a b (by decide) (by decide) ha ha' hb hb', do_eq 57 a b (by decide) (by decide) ha ha' hb hb']
  by_cases h0 : b = 0
  · subst h0; simp [rdoP]; omega
  · simp [rdoP, h0]
    have h := Int.mul_ediv_add_emod a b
    rw [Int.mul_comm] at h
    omega
theorem back_s (a b : Int) (ha : 0 ≤ a) (ha' : a ≤ 4294967295) (hb : 0 ≤ b) (hb' : b ≤ 4294967295) : ((doV 54 a b * b + doV 56 a b) % 4294967296 != a) = false := by
  rw [bne_eq_false_iff_eq, do_eq 54 a b (by decide) (by decide) ha ha' hb hb', do_eq 56 a b (by decide) (by decide) ha ha' hb hb']
  by_cases h0 : b = 0
  · subst h0; simp [rdoP]; omega
  · simp only [rdoP, h0, if_false, if_true, show ¬ ((54 : Int) = 50) by decide, show ¬ ((54 : Int) = 51) by decide, show ¬ ((54 : Int) = 52) by decide, show ¬ ((54 : Int) = 53) by decide, show ¬ ((56 : Int) = 50) by decide, show ¬ ((56 : Int) = 51) by decide, show ¬ ((56 : Int) = 52) by decide, show ¬ ((56 : Int) = 53) by decide, show ¬ ((56 : Int) = 54) by decide]
    have h := Int.mul_tdiv_add_tmod (sgn a) (sgn b)
    have hx : ∃ k, sgn a = a + 4294967296 * k := by unfold sgn; split; exact ⟨-1, by omega⟩; exact ⟨0, by omega⟩
    have hy : ∃ k, b = sgn b + 4294967296 * k := by unfold sgn; split; exact ⟨1, by omega⟩; exact ⟨0, by omega⟩
    obtain ⟨k, hk⟩ := hx
    obtain ⟨l, hl⟩ := hy
    generalize (sgn a).tdiv (sgn b) = t at *
    generalize (sgn a).tmod (sgn b) = m at *
    generalize sgn b = y at *
    generalize sgn a = x at *
    have e : (t % 4294967296) * b + m % 4294967296 = a + 4294967296 * (k + t * l - t / 4294967296 * b - m / 4294967296) := by
      have e1 : t % 4294967296 = t - 4294967296 * (t / 4294967296) := by omega
      have e2 : m % 4294967296 = m - 4294967296 * (m / 4294967296) := by omega
      rw [e1, e2]
      generalize t / 4294967296 = u
      generalize m / 4294967296 = v
      subst hl
      grind
    rw [e]
    omega
theorem back_w (a b : Int) (ha : 0 ≤ a) (ha' : a ≤ 4294967295) (hb : 0 ≤ b) (hb' : b ≤ 4294967295) (w : World) :
    Calls Try.prog 5 #[.int .u32 a, .int .u32 b] w fun e w' => e = .returned (.bool true) ∧ Below w.heap.size w w' := by
  have e1 := back_u a b ha ha' hb hb'
  have e2 := back_s a b ha ha' hb hb'
  have e3 : b = 0 → doV 55 a 0 = 4294967295 := fun _ => by rw [do_eq 55 a 0 (by decide) (by decide) ha ha' (by decide) (by decide)]; simp [rdoP]
  have e4 : b = 0 → doV 54 a 0 = 4294967295 := fun _ => by rw [do_eq 54 a 0 (by decide) (by decide) ha ha' (by decide) (by decide)]; simp [rdoP]
  have e5 : ¬ b = 0 → doV 57 a b < b := fun h => by
    rw [do_eq 57 a b (by decide) (by decide) ha ha' hb hb']; simp [rdoP, h]
    exact Int.emod_lt_of_pos a (by omega)
  by_cases h0 : b = 0
  · subst h0
    have e3 := e3 rfl
    have e4 := e4 rfl
    clear e5
    go_enter Try.func5, Try.ntmps5
    go_wp2_with (first | (go_at_call_of 7 (Value.int IntKind.i64 55); refine (do_c 55 a _ ha ha' (by decide) (by decide) _).mono ?_; rintro e w1 ⟨rfl, hB1⟩) | (go_at_call_of 7 (Value.int IntKind.i64 57); refine (do_c 57 a _ ha ha' (by decide) (by decide) _).mono ?_; rintro e w2 ⟨rfl, hB2⟩) | (go_at_call_of 7 (Value.int IntKind.i64 54); refine (do_c 54 a _ ha ha' (by decide) (by decide) _).mono ?_; rintro e w3 ⟨rfl, hB3⟩) | (go_at_call_of 7 (Value.int IntKind.i64 56); refine (do_c 56 a _ ha ha' (by decide) (by decide) _).mono ?_; rintro e w4 ⟨rfl, hB4⟩) | (go_at_call 10; refine (awake_c _).mono ?_; rintro e w5 ⟨rfl, hB⟩))
    go_ret
    exact ⟨by simp, (((hB1.trans (hB2.mono hB1.size)).trans (hB3.mono (Nat.le_trans hB1.size hB2.size))).trans (hB4.mono (Nat.le_trans (Nat.le_trans hB1.size hB2.size) hB3.size))).trans (hB.mono (Nat.le_trans (Nat.le_trans (Nat.le_trans hB1.size hB2.size) hB3.size) hB4.size))⟩
  · have e5 := e5 h0
    have k0 : (b == 0) = false := beq_eq_false_iff_ne.mpr h0
    clear e3 e4
    go_enter Try.func5, Try.ntmps5
    go_wp2_with (first | (go_at_call_of 7 (Value.int IntKind.i64 55); refine (do_c 55 a b ha ha' hb hb' _).mono ?_; rintro e w1 ⟨rfl, hB1⟩) | (go_at_call_of 7 (Value.int IntKind.i64 57); refine (do_c 57 a b ha ha' hb hb' _).mono ?_; rintro e w2 ⟨rfl, hB2⟩) | (go_at_call_of 7 (Value.int IntKind.i64 54); refine (do_c 54 a b ha ha' hb hb' _).mono ?_; rintro e w3 ⟨rfl, hB3⟩) | (go_at_call_of 7 (Value.int IntKind.i64 56); refine (do_c 56 a b ha ha' hb hb' _).mono ?_; rintro e w4 ⟨rfl, hB4⟩) | (go_at_call 10; refine (awake_c _).mono ?_; rintro e w5 ⟨rfl, hB⟩))
    go_ret
    exact ⟨by simp, (((hB1.trans (hB2.mono hB1.size)).trans (hB3.mono (Nat.le_trans hB1.size hB2.size))).trans (hB4.mono (Nat.le_trans (Nat.le_trans hB1.size hB2.size) hB3.size))).trans (hB.mono (Nat.le_trans (Nat.le_trans (Nat.le_trans hB1.size hB2.size) hB3.size) hB4.size))⟩

theorem halves_1 (a b : Int) (ha : 0 ≤ a) (ha' : a ≤ 4294967295) : (2147483648 ≤ a → doV 52 a b = (doV 53 a b - b) % 4294967296) ∧ (¬ 2147483648 ≤ a → doV 52 a b = doV 53 a b) := by
  have x2 : doV 52 a b = upP a b true false := by simp [doV]
  have x3 : doV 53 a b = upP a b false false := by simp [doV]
  rw [x2, x3]
  unfold upP
  constructor <;> intro h
  · rw [negB_t a ha' h]; simp
  · rw [negB_f a ha (by omega)]; simp
theorem halves_2 (a b : Int) (hb : 0 ≤ b) (hb' : b ≤ 4294967295) : (2147483648 ≤ b → doV 51 a b = (doV 52 a b - a) % 4294967296) ∧ (¬ 2147483648 ≤ b → doV 51 a b = doV 52 a b) := by
  have x2 : doV 52 a b = upP a b true false := by simp [doV]
  have x3 : doV 51 a b = upP a b true true := by simp [doV]
  rw [x2, x3]
  unfold upP
  constructor <;> intro h
  · rw [negB_t b hb' h]; simp
  · rw [negB_f b hb (by omega)]; simp
theorem halves_w (a b : Int) (ha : 0 ≤ a) (ha' : a ≤ 4294967295) (hb : 0 ≤ b) (hb' : b ≤ 4294967295) (w : World) :
    Calls Try.prog 6 #[.int .u32 a, .int .u32 b] w fun e w' => e = .returned (.bool true) ∧ Below w.heap.size w w' := by
  obtain ⟨f1, f2⟩ := halves_1 a b ha ha'
  obtain ⟨f3, f4⟩ := halves_2 a b hb hb'
  by_cases h : 2147483648 ≤ a <;> by_cases k : 2147483648 ≤ b
  · have E1 := f1 h
    have E2 := f3 k
    clear f1 f2 f3 f4
    go_enter Try.func6, Try.ntmps6
    go_wp2_with (first | (go_at_call_of 7 (Value.int IntKind.i64 53); refine (do_c 53 a b ha ha' hb hb' _).mono ?_; rintro e w1 ⟨rfl, hB1⟩) | (go_at_call_of 7 (Value.int IntKind.i64 52); refine (do_c 52 a b ha ha' hb hb' _).mono ?_; rintro e w2 ⟨rfl, hB2⟩) | (go_at_call_of 7 (Value.int IntKind.i64 51); refine (do_c 51 a b ha ha' hb hb' _).mono ?_; rintro e w3 ⟨rfl, hB3⟩) | (go_at_call 10; refine (awake_c _).mono ?_; rintro e w' ⟨rfl, hB⟩))
    go_ret
    exact ⟨by simp, ((hB1.trans (hB2.mono hB1.size)).trans (hB3.mono (Nat.le_trans hB1.size hB2.size))).trans (hB.mono (Nat.le_trans (Nat.le_trans hB1.size hB2.size) hB3.size))⟩
  · have E1 := f1 h
    have E2 := f4 k
    clear f1 f2 f3 f4
    go_enter Try.func6, Try.ntmps6
    go_wp2_with (first | (go_at_call_of 7 (Value.int IntKind.i64 53); refine (do_c 53 a b ha ha' hb hb' _).mono ?_; rintro e w1 ⟨rfl, hB1⟩) | (go_at_call_of 7 (Value.int IntKind.i64 52); refine (do_c 52 a b ha ha' hb hb' _).mono ?_; rintro e w2 ⟨rfl, hB2⟩) | (go_at_call_of 7 (Value.int IntKind.i64 51); refine (do_c 51 a b ha ha' hb hb' _).mono ?_; rintro e w3 ⟨rfl, hB3⟩) | (go_at_call 10; refine (awake_c _).mono ?_; rintro e w' ⟨rfl, hB⟩))
    go_ret
    exact ⟨by simp, ((hB1.trans (hB2.mono hB1.size)).trans (hB3.mono (Nat.le_trans hB1.size hB2.size))).trans (hB.mono (Nat.le_trans (Nat.le_trans hB1.size hB2.size) hB3.size))⟩
  · have E1 := f2 h
    have E2 := f3 k
    clear f1 f2 f3 f4
    go_enter Try.func6, Try.ntmps6
    go_wp2_with (first | (go_at_call_of 7 (Value.int IntKind.i64 53); refine (do_c 53 a b ha ha' hb hb' _).mono ?_; rintro e w1 ⟨rfl, hB1⟩) | (go_at_call_of 7 (Value.int IntKind.i64 52); refine (do_c 52 a b ha ha' hb hb' _).mono ?_; rintro e w2 ⟨rfl, hB2⟩) | (go_at_call_of 7 (Value.int IntKind.i64 51); refine (do_c 51 a b ha ha' hb hb' _).mono ?_; rintro e w3 ⟨rfl, hB3⟩) | (go_at_call 10; refine (awake_c _).mono ?_; rintro e w' ⟨rfl, hB⟩))
    go_ret
    exact ⟨by simp, ((hB1.trans (hB2.mono hB1.size)).trans (hB3.mono (Nat.le_trans hB1.size hB2.size))).trans (hB.mono (Nat.le_trans (Nat.le_trans hB1.size hB2.size) hB3.size))⟩
  · have E1 := f2 h
    have E2 := f4 k
    clear f1 f2 f3 f4
    go_enter Try.func6, Try.ntmps6
    go_wp2_with (first | (go_at_call_of 7 (Value.int IntKind.i64 53); refine (do_c 53 a b ha ha' hb hb' _).mono ?_; rintro e w1 ⟨rfl, hB1⟩) | (go_at_call_of 7 (Value.int IntKind.i64 52); refine (do_c 52 a b ha ha' hb hb' _).mono ?_; rintro e w2 ⟨rfl, hB2⟩) | (go_at_call_of 7 (Value.int IntKind.i64 51); refine (do_c 51 a b ha ha' hb hb' _).mono ?_; rintro e w3 ⟨rfl, hB3⟩) | (go_at_call 10; refine (awake_c _).mono ?_; rintro e w' ⟨rfl, hB⟩))
    go_ret
    exact ⟨by simp, ((hB1.trans (hB2.mono hB1.size)).trans (hB3.mono (Nat.le_trans hB1.size hB2.size))).trans (hB.mono (Nat.le_trans (Nat.le_trans hB1.size hB2.size) hB3.size))⟩
theorem does_w (op a b : Int) (ha : 0 ≤ a) (ha' : a ≤ 4294967295) (hb : 0 ≤ b) (hb' : b ≤ 4294967295) (w : World) :
    Calls Try.prog 3 #[.int .i64 op, .int .u32 a, .int .u32 b] w fun e w' => e = .returned (.bool true) ∧ Below w.heap.size w w' := by
  by_cases ho : 50 ≤ op ∧ op ≤ 57
  · obtain ⟨ho, ho'⟩ := ho
    have e1 : doE op = 0 := by simp [doE, ho, ho']
    have e2 := do_eq op a b ho ho' ha ha' hb hb'
    go_enter Try.func3, Try.ntmps3
    go_wp2_with (first | (go_at_call 7; refine (do_c op a b ha ha' hb hb' _).mono ?_; rintro e w1 ⟨rfl, hB1⟩) | (go_at_call 8; refine (has_c op _).mono ?_; rintro e w2 ⟨rfl, rfl⟩) | (go_at_call 9; refine (rhas_c op _).mono ?_; rintro e w2 ⟨rfl, rfl⟩) | (go_at_call 10; refine (awake_c _).mono ?_; rintro e w' ⟨rfl, hB⟩) | (go_at_call 11; refine (rdo_c op a b ho ho' ha ha' hb hb' _).mono ?_; rintro e w' ⟨rfl, rfl⟩))
    go_ret
    exact ⟨by simp, hB1.trans (hB.mono hB1.size)⟩
  · have e1 : doE op = 9 := by rw [doE, if_neg ho]
    have k : ∀ n : Int, 50 ≤ n → n ≤ 57 → ¬ op = n := fun n h h' e => ho (by omega)
    have e2 : doV op a b = 0 := by simp [doV, k]
    have e3 : (decide (50 ≤ op) && decide (op ≤ 57)) = false := by simp; omega
    clear k
    go_enter Try.func3, Try.ntmps3
    go_wp2_with (first | (go_at_call 7; refine (do_c op a b ha ha' hb hb' _).mono ?_; rintro e w1 ⟨rfl, hB1⟩) | (go_at_call 8; refine (has_c op _).mono ?_; rintro e w2 ⟨rfl, rfl⟩; rw [e3]) | (go_at_call 9; refine (rhas_c op _).mono ?_; rintro e w2 ⟨rfl, rfl⟩; rw [e3]) | (go_at_call 10; refine (awake_c _).mono ?_; rintro e w' ⟨rfl, hB⟩))
    go_ret
    exact ⟨by simp, hB1.trans (hB.mono hB1.size)⟩
end Go.Proofs.Ytnooikjkjcflbaa
