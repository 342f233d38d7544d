/- Proved: two words that are told as one instruction are one word, if it is not illegal. Conditions: words are words. -/
import Derived.Test.YtnooikjkjcflbacDoorDh
namespace Go.Proofs.YtnooikjkjcflbacDoor
open Go.RowKit
set_option linter.unusedVariables false
set_option linter.unusedSimpArgs false

set_option maxHeartbeats 4000000 in
theorem pat_same (a b : Int) (i : Nat) (hi : i < 57) (ha : patC (a % 128) (a / 4096 % 8) (a / 33554432) a i) (hb : patC (b % 128) (b / 4096 % 8) (b / 33554432) b i) :
    (rformV (i + 1) = 0 → a = b) ∧ a % 128 = b % 128 ∧ (3 ≤ rformV (i + 1) → a / 4096 % 8 = b / 4096 % 8) ∧ (rformV (i + 1) = 6 ∨ rformV (i + 1) = 7 → a / 33554432 = b / 33554432) := by
  rcases (by omega : i = 0 ∨ i = 1 ∨ i = 2 ∨ i = 3 ∨ i = 4 ∨ i = 5 ∨ i = 6 ∨ i = 7 ∨ i = 8 ∨ i = 9 ∨ i = 10 ∨ i = 11 ∨ i = 12 ∨ i = 13 ∨ i = 14 ∨ i = 15 ∨ i = 16 ∨ i = 17 ∨ i = 18 ∨ i = 19 ∨ i = 20 ∨ i = 21 ∨ i = 22 ∨ i = 23 ∨ i = 24 ∨ i = 25 ∨ i = 26 ∨ i = 27 ∨ i = 28 ∨ i = 29 ∨ i = 30 ∨ i = 31 ∨ i = 32 ∨ i = 33 ∨ i = 34 ∨ i = 35 ∨ i = 36 ∨ i = 37 ∨ i = 38 ∨ i = 39 ∨ i = 40 ∨ i = 41 ∨ i = 42 ∨ i = 43 ∨ i = 44 ∨ i = 45 ∨ i = 46 ∨ i = 47 ∨ i = 48 ∨ i = 49 ∨ i = 50 ∨ i = 51 ∨ i = 52 ∨ i = 53 ∨ i = 54 ∨ i = 55 ∨ i = 56) with rfl | rfl | rfl | rfl | rfl | rfl | rfl | rfl | rfl | rfl | rfl | rfl | rfl | rfl | rfl | rfl | rfl | rfl | rfl | rfl | rfl | rfl | rfl | rfl | rfl | rfl | rfl | rfl | rfl | rfl | rfl | rfl | rfl | rfl | rfl | rfl | rfl | rfl | rfl | rfl | rfl | rfl | rfl | rfl | rfl | rfl | rfl | rfl | rfl | rfl | rfl | rfl | rfl | rfl | rfl | rfl | rfl
  all_goals
    simp only [patC] at ha hb
    refine ⟨fun hf => ?_, ?_, fun hf => ?_, fun hf => ?_⟩
    all_goals first | (exfalso; revert hf; decide) | omega
theorem sgx_inj (n : Nat) (hn : n = 12 ∨ n = 13 ∨ n = 21) (x y : Int) (hx : 0 ≤ x ∧ x < 2 ^ n) (hy : 0 ≤ y ∧ y < 2 ^ n) (h : sgx n x = sgx n y) : x = y := by
  unfold sgx at h
  rcases hn with rfl | rfl | rfl
  all_goals
    simp only [Nat.reduceSub, Int.reducePow] at *
    revert h
    split <;> split <;> intro h <;> omega
theorem cutU (x : Int) : x = x / 4096 * 4096 + x / 128 % 32 * 128 + x % 128 := by
  have d1 : x = x / 128 * 128 + x % 128 := by omega
  have d128 : x / 128 = x / 4096 * 32 + x / 128 % 32 := by omega
  generalize x % 128 = m1 at *
  generalize x / 128 % 32 = m128 at *
  generalize x / 128 = q128 at *
  generalize x / 4096 = q4096 at *
  omega
theorem cutI (x : Int) : x = x / 1048576 * 1048576 + x / 32768 % 32 * 32768 + x / 4096 % 8 * 4096 + x / 128 % 32 * 128 + x % 128 := by
  have d1 : x = x / 128 * 128 + x % 128 := by omega
  have d128 : x / 128 = x / 4096 * 32 + x / 128 % 32 := by omega
  have d4096 : x / 4096 = x / 32768 * 8 + x / 4096 % 8 := by omega
  have d32768 : x / 32768 = x / 1048576 * 32 + x / 32768 % 32 := by omega
  generalize x % 128 = m1 at *
  generalize x / 128 % 32 = m128 at *
  generalize x / 4096 % 8 = m4096 at *
  generalize x / 32768 % 32 = m32768 at *
  generalize x / 128 = q128 at *
  generalize x / 4096 = q4096 at *
  generalize x / 32768 = q32768 at *
  generalize x / 1048576 = q1048576 at *
  omega
theorem cutR (x : Int) : x = x / 33554432 * 33554432 + x / 1048576 % 32 * 1048576 + x / 32768 % 32 * 32768 + x / 4096 % 8 * 4096 + x / 128 % 32 * 128 + x % 128 := by
  have d1 : x = x / 128 * 128 + x % 128 := by omega
  have d128 : x / 128 = x / 4096 * 32 + x / 128 % 32 := by omega
  have d4096 : x / 4096 = x / 32768 * 8 + x / 4096 % 8 := by omega
  have d32768 : x / 32768 = x / 1048576 * 32 + x / 32768 % 32 := by omega
  have d1048576 : x / 1048576 = x / 33554432 * 32 + x / 1048576 % 32 := by omega
  generalize x % 128 = m1 at *
  generalize x / 128 % 32 = m128 at *
  generalize x / 4096 % 8 = m4096 at *
  generalize x / 32768 % 32 = m32768 at *
  generalize x / 1048576 % 32 = m1048576 at *
  generalize x / 128 = q128 at *
  generalize x / 4096 = q4096 at *
  generalize x / 32768 = q32768 at *
  generalize x / 1048576 = q1048576 at *
  generalize x / 33554432 = q33554432 at *
  omega
theorem cutJ (x : Int) : x = x / 2147483648 * 2147483648 + x / 2097152 % 1024 * 2097152 + x / 1048576 % 2 * 1048576 + x / 4096 % 256 * 4096 + x / 128 % 32 * 128 + x % 128 := by
  have d1 : x = x / 128 * 128 + x % 128 := by omega
  have d128 : x / 128 = x / 4096 * 32 + x / 128 % 32 := by omega
  have d4096 : x / 4096 = x / 1048576 * 256 + x / 4096 % 256 := by omega
  have d1048576 : x / 1048576 = x / 2097152 * 2 + x / 1048576 % 2 := by omega
  have d2097152 : x / 2097152 = x / 2147483648 * 1024 + x / 2097152 % 1024 := by omega
  generalize x % 128 = m1 at *
  generalize x / 128 % 32 = m128 at *
  generalize x / 4096 % 256 = m4096 at *
  generalize x / 1048576 % 2 = m1048576 at *
  generalize x / 2097152 % 1024 = m2097152 at *
  generalize x / 128 = q128 at *
  generalize x / 4096 = q4096 at *
  generalize x / 1048576 = q1048576 at *
  generalize x / 2097152 = q2097152 at *
  generalize x / 2147483648 = q2147483648 at *
  omega
theorem cutB (x : Int) : x = x / 2147483648 * 2147483648 + x / 33554432 % 64 * 33554432 + x / 1048576 % 32 * 1048576 + x / 32768 % 32 * 32768 + x / 4096 % 8 * 4096 + x / 256 % 16 * 256 + x / 128 % 2 * 128 + x % 128 := by
  have d1 : x = x / 128 * 128 + x % 128 := by omega
  have d128 : x / 128 = x / 256 * 2 + x / 128 % 2 := by omega
  have d256 : x / 256 = x / 4096 * 16 + x / 256 % 16 := by omega
  have d4096 : x / 4096 = x / 32768 * 8 + x / 4096 % 8 := by omega
  have d32768 : x / 32768 = x / 1048576 * 32 + x / 32768 % 32 := by omega
  have d1048576 : x / 1048576 = x / 33554432 * 32 + x / 1048576 % 32 := by omega
  have d33554432 : x / 33554432 = x / 2147483648 * 64 + x / 33554432 % 64 := by omega
  generalize x % 128 = m1 at *
  generalize x / 128 % 2 = m128 at *
  generalize x / 256 % 16 = m256 at *
  generalize x / 4096 % 8 = m4096 at *
  generalize x / 32768 % 32 = m32768 at *
  generalize x / 1048576 % 32 = m1048576 at *
  generalize x / 33554432 % 64 = m33554432 at *
  generalize x / 128 = q128 at *
  generalize x / 256 = q256 at *
  generalize x / 4096 = q4096 at *
  generalize x / 32768 = q32768 at *
  generalize x / 1048576 = q1048576 at *
  generalize x / 33554432 = q33554432 at *
  generalize x / 2147483648 = q2147483648 at *
  omega
theorem dig1048576 (q r q' r' : Int) (h : 0 ≤ r ∧ r < 1048576) (h' : 0 ≤ r' ∧ r' < 1048576) (e : q * 1048576 + r = q' * 1048576 + r') : q = q' ∧ r = r' := by omega
theorem dig4096 (q r q' r' : Int) (h : 0 ≤ r ∧ r < 4096) (h' : 0 ≤ r' ∧ r' < 4096) (e : q * 4096 + r = q' * 4096 + r') : q = q' ∧ r = r' := by omega
theorem dig2048 (q r q' r' : Int) (h : 0 ≤ r ∧ r < 2048) (h' : 0 ≤ r' ∧ r' < 2048) (e : q * 2048 + r = q' * 2048 + r') : q = q' ∧ r = r' := by omega
theorem dig32 (q r q' r' : Int) (h : 0 ≤ r ∧ r < 32) (h' : 0 ≤ r' ∧ r' < 32) (e : q * 32 + r = q' * 32 + r') : q = q' ∧ r = r' := by omega
theorem mod_rng (x n : Int) (hn : 0 < n) : 0 ≤ x % n ∧ x % n < n := ⟨Int.emod_nonneg _ (by omega), Int.emod_lt_of_pos _ hn⟩
theorem j_dig (a1 a2 a3 a4 b1 b2 b3 b4 : Int) (p2 : 0 ≤ a2 ∧ a2 < 256) (p3 : 0 ≤ a3 ∧ a3 < 2) (p4 : 0 ≤ a4 ∧ a4 < 1024) (q2 : 0 ≤ b2 ∧ b2 < 256) (q3 : 0 ≤ b3 ∧ b3 < 2) (q4 : 0 ≤ b4 ∧ b4 < 1024)
    (h : a1 * 1048576 + a2 * 4096 + a3 * 2048 + a4 * 2 = b1 * 1048576 + b2 * 4096 + b3 * 2048 + b4 * 2) : a1 = b1 ∧ a2 = b2 ∧ a3 = b3 ∧ a4 = b4 := by
  obtain ⟨e1, h2⟩ := dig1048576 a1 (a2 * 4096 + (a3 * 2048 + a4 * 2)) b1 (b2 * 4096 + (b3 * 2048 + b4 * 2)) (by clear h q2 q3 q4; omega) (by clear h p2 p3 p4; omega) (by clear p2 p3 p4 q2 q3 q4; omega)
  clear h
  obtain ⟨e2, h3⟩ := dig4096 a2 (a3 * 2048 + a4 * 2) b2 (b3 * 2048 + b4 * 2) (by clear h2 q2 q3 q4; omega) (by clear h2 p2 p3 p4; omega) h2
  clear h2
  obtain ⟨e3, h4⟩ := dig2048 a3 (a4 * 2) b3 (b4 * 2) (by clear h3 q2 q3 q4; omega) (by clear h3 p2 p3 p4; omega) h3
  exact ⟨e1, e2, e3, by clear h3 e1 e2 e3 p2 p3 p4 q2 q3 q4; omega⟩
theorem b_dig (a1 a2 a3 a4 b1 b2 b3 b4 : Int) (p2 : 0 ≤ a2 ∧ a2 < 2) (p3 : 0 ≤ a3 ∧ a3 < 64) (p4 : 0 ≤ a4 ∧ a4 < 16) (q2 : 0 ≤ b2 ∧ b2 < 2) (q3 : 0 ≤ b3 ∧ b3 < 64) (q4 : 0 ≤ b4 ∧ b4 < 16)
    (h : a1 * 4096 + a2 * 2048 + a3 * 32 + a4 * 2 = b1 * 4096 + b2 * 2048 + b3 * 32 + b4 * 2) : a1 = b1 ∧ a2 = b2 ∧ a3 = b3 ∧ a4 = b4 := by
  obtain ⟨e1, h2⟩ := dig4096 a1 (a2 * 2048 + (a3 * 32 + a4 * 2)) b1 (b2 * 2048 + (b3 * 32 + b4 * 2)) (by clear h q2 q3 q4; omega) (by clear h p2 p3 p4; omega) (by clear p2 p3 p4 q2 q3 q4; omega)
  clear h
  obtain ⟨e2, h3⟩ := dig2048 a2 (a3 * 32 + a4 * 2) b2 (b3 * 32 + b4 * 2) (by clear h2 q2 q3 q4; omega) (by clear h2 p2 p3 p4; omega) h2
  clear h2
  obtain ⟨e3, h4⟩ := dig32 a3 (a4 * 2) b3 (b4 * 2) (by clear h3 q2 q3 q4; omega) (by clear h3 p2 p3 p4; omega) h3
  exact ⟨e1, e2, e3, by clear h3 e1 e2 e3 p2 p3 p4 q2 q3 q4; omega⟩
theorem immJ_inj (a b : Int) (ha : 0 ≤ a ∧ a ≤ 4294967295) (hb : 0 ≤ b ∧ b ≤ 4294967295) (h : immJ a = immJ b) (ho : a % 128 = b % 128) (hd : a / 128 % 32 = b / 128 % 32) : a = b := by
  have da := cutJ a
  have db := cutJ b
  unfold immJ at h
  obtain ⟨e1, e2, e3, e4⟩ := j_dig _ _ _ _ _ _ _ _ (mod_rng _ 256 (by decide)) (mod_rng _ 2 (by decide)) (mod_rng _ 1024 (by decide)) (mod_rng _ 256 (by decide)) (mod_rng _ 2 (by decide)) (mod_rng _ 1024 (by decide)) h
  rw [da, db, ho, hd, e1, e2, e3, e4]
theorem immB_inj (a b : Int) (ha : 0 ≤ a ∧ a ≤ 4294967295) (hb : 0 ≤ b ∧ b ≤ 4294967295) (h : immB a = immB b) (ho : a % 128 = b % 128) (hg : a / 4096 % 8 = b / 4096 % 8) (h1 : a / 32768 % 32 = b / 32768 % 32) (h2 : a / 1048576 % 32 = b / 1048576 % 32) : a = b := by
  have da := cutB a
  have db := cutB b
  unfold immB at h
  obtain ⟨e1, e2, e3, e4⟩ := b_dig _ _ _ _ _ _ _ _ (mod_rng _ 2 (by decide)) (mod_rng _ 64 (by decide)) (mod_rng _ 16 (by decide)) (mod_rng _ 2 (by decide)) (mod_rng _ 64 (by decide)) (mod_rng _ 16 (by decide)) h
  rw [da, db, ho, hg, h1, h2, e1, e2, e3, e4]
theorem immS_inj (a b : Int) (ha : 0 ≤ a ∧ a ≤ 4294967295) (hb : 0 ≤ b ∧ b ≤ 4294967295) (h : immS a = immS b) (ho : a % 128 = b % 128) (hg : a / 4096 % 8 = b / 4096 % 8) (h1 : a / 32768 % 32 = b / 32768 % 32) (h2 : a / 1048576 % 32 = b / 1048576 % 32) : a = b := by
  have da := cutR a
  have db := cutR b
  have ra : 0 ≤ a / 128 % 32 ∧ a / 128 % 32 < 32 := by clear h ha hb ho hg h1 h2 da db; omega
  have rb : 0 ≤ b / 128 % 32 ∧ b / 128 % 32 < 32 := by clear h ha hb ho hg h1 h2 da db; omega
  unfold immS at h
  rw [da, db, ho, hg, h1, h2]
  obtain ⟨e1, e2⟩ := dig32 _ _ _ _ ra rb h
  rw [e1, e2]
theorem rng12 (a : Int) (ha : 0 ≤ a ∧ a ≤ 4294967295) : 0 ≤ a / 1048576 ∧ a / 1048576 < 2 ^ 12 := by
  have p12 : (2 : Int) ^ 12 = 4096 := rfl
  rw [p12]; omega
theorem f10 (f : Int) (hr : 0 ≤ f ∧ f ≤ 9) : f = 0 ∨ f = 1 ∨ f = 2 ∨ f = 3 ∨ f = 4 ∨ f = 5 ∨ f = 6 ∨ f = 7 ∨ f = 8 ∨ f = 9 := by omega
theorem div_of (x y : Int) (h : x * 4096 = y * 4096) : x = y := by omega
theorem word_inj (a b : Int) (ha : 0 ≤ a ∧ a ≤ 4294967295) (hb : 0 ≤ b ∧ b ≤ 4294967295) (f : Int) (hr : 0 ≤ f ∧ f ≤ 9)
    (hz : f = 0 → a = b) (ho : a % 128 = b % 128) (hg : 3 ≤ f → a / 4096 % 8 = b / 4096 % 8) (ht : f = 6 ∨ f = 7 → a / 33554432 = b / 33554432)
    (e1 : oRd f (a / 128 % 32) = oRd f (b / 128 % 32)) (e2 : oRs1 f (a / 32768 % 32) = oRs1 f (b / 32768 % 32)) (e3 : oRs2 f (a / 1048576 % 32) = oRs2 f (b / 1048576 % 32)) (e4 : immV a f = immV b f) (e5 : oCsr f (a / 1048576) = oCsr f (b / 1048576)) : a = b := by
  rcases (f10 f hr : f = 0 ∨ f = 1 ∨ f = 2 ∨ f = 3 ∨ f = 4 ∨ f = 5 ∨ f = 6 ∨ f = 7 ∨ f = 8 ∨ f = 9) with rfl | rfl | rfl | rfl | rfl | rfl | rfl | rfl | rfl | rfl
  · exact hz rfl
  · simp [oRd, immV] at e1 e4
    have e6 : a / 4096 = b / 4096 := div_of _ _ (by simpa using e4)
    rw [cutU a, cutU b, ho, e1, e6]
  · simp [oRd, immV] at e1 e4
    exact immJ_inj a b ha hb (sgx_inj 21 (by decide) _ _ (immJ_rng a ha) (immJ_rng b hb) e4) ho e1
  · simp [oRd, oRs1, immV] at e1 e2 e4
    have e6 := sgx_inj 12 (by decide) _ _ (rng12 a ha) (rng12 b hb) e4
    have e7 := hg (by decide)
    rw [cutI a, cutI b, ho, e1, e2, e6, e7]
  · simp [oRs1, oRs2, immV] at e2 e3 e4
    exact immB_inj a b ha hb (sgx_inj 13 (by decide) _ _ (immB_rng a ha) (immB_rng b hb) e4) ho (hg (by decide)) e2 e3
  · simp [oRs1, oRs2, immV] at e2 e3 e4
    exact immS_inj a b ha hb (sgx_inj 12 (by decide) _ _ (immS_rng a ha) (immS_rng b hb) e4) ho (hg (by decide)) e2 e3
  · simp [oRd, oRs1, oRs2] at e1 e2 e3
    have e6 := hg (by decide)
    have e7 := ht (by decide)
    rw [cutR a, cutR b, ho, e1, e2, e3, e6, e7]
  · simp [oRd, oRs1, immV] at e1 e2 e4
    have e6 := hg (by decide)
    have e7 := ht (by decide)
    rw [cutR a, cutR b, ho, e1, e2, e4, e6, e7]
  · simp [oRd, oRs1, oCsr] at e1 e2 e5
    have e6 := hg (by decide)
    rw [cutI a, cutI b, ho, e1, e2, e5, e6]
  · simp [oRd, immV, oCsr] at e1 e4 e5
    have e6 := hg (by decide)
    rw [cutI a, cutI b, ho, e1, e4, e5, e6]
theorem nat_of (k : Int) (hr : 0 ≤ k ∧ k ≤ 57) (hn : ¬ k = 0) : ∃ i : Nat, i < 57 ∧ k = (i : Int) + 1 := ⟨(k - 1).toNat, by omega, by omega⟩
theorem ins_inj (a b : Int) (ha : 0 ≤ a ∧ a ≤ 4294967295) (hb : 0 ≤ b ∧ b ≤ 4294967295) (h0 : kindV a = kindV b) (f : Int) (hf : rformV (kindV a) = f)
    (e1 : oRd f (a / 128 % 32) = oRd f (b / 128 % 32)) (e2 : oRs1 f (a / 32768 % 32) = oRs1 f (b / 32768 % 32)) (e3 : oRs2 f (a / 1048576 % 32) = oRs2 f (b / 1048576 % 32)) (e4 : immV a f = immV b f) (e5 : oCsr f (a / 1048576) = oCsr f (b / 1048576)) (hn : ¬ kindV a = 0) : a = b := by
  have hr := kind_rng a
  obtain ⟨i, hi, i1⟩ := nat_of _ hr hn
  have i2 : kindV b = (i : Int) + 1 := h0.symm.trans i1
  have pa := (match_c a ha i hi).mp ((match_iff a ha i hi).mpr i1)
  have pb := (match_c b hb i hi).mp ((match_iff b hb i hi).mpr i2)
  obtain ⟨hz, ho, hg, ht⟩ := pat_same a b i hi pa pb
  rw [i1] at hf
  rw [hf] at hz hg ht
  exact word_inj a b ha hb f (hf ▸ drform_rng _) hz ho hg ht e1 e2 e3 e4 e5
end Go.Proofs.YtnooikjkjcflbacDoor
