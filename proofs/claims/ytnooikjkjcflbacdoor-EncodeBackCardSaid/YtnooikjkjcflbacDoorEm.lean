/- Proved: what the fields of a word are, form by form, where the word is put together of them. Conditions: fields are fields. -/
import Derived.Test.YtnooikjkjcflbacDoorIr2
import Derived.Test.YtnooikjkjcflbacDoorDb
namespace Go.Proofs.YtnooikjkjcflbacDoor
open Go.RowKit
set_option linter.unusedVariables false
set_option linter.unusedSimpArgs false

theorem mcut (f M : Int) (h0 : 0 ≤ M ∧ M ≤ 4294967295) (h1 : M % 4096 < 128) (h2 : M % 1048576 < 32768) (h3 : M % 33554432 < 1048576) : M = M % 128 + M / 4096 % 8 * 4096 + M / 33554432 * 33554432 := by omega
theorem dgU (M rd a : Int) (hM : 0 ≤ M ∧ M < 128) (h1 : 0 ≤ rd ∧ rd ≤ 31) (h2 : 0 ≤ a ∧ a < 1048576) :
    (0 ≤ M + rd * 128 + a * 4096 ∧ M + rd * 128 + a * 4096 ≤ 4294967295) ∧ (M + rd * 128 + a * 4096) % 128 = M ∧ (M + rd * 128 + a * 4096) / 128 % 32 = rd ∧ (M + rd * 128 + a * 4096) / 4096 = a := by
  refine ⟨⟨?_, ?_⟩, ?_, ?_, ?_⟩ <;> omega
theorem dgJ (M rd a1 a2 a3 a4 : Int) (hM : 0 ≤ M ∧ M < 128) (h1 : 0 ≤ rd ∧ rd ≤ 31) (p1 : 0 ≤ a1 ∧ a1 < 2) (p2 : 0 ≤ a2 ∧ a2 < 256) (p3 : 0 ≤ a3 ∧ a3 < 2) (p4 : 0 ≤ a4 ∧ a4 < 1024) (x : Int) (hx : x = M + rd * 128 + a1 * 2147483648 + a2 * 4096 + a3 * 1048576 + a4 * 2097152) :
    (0 ≤ x ∧ x ≤ 4294967295) ∧ x % 128 = M ∧ x / 128 % 32 = rd ∧ x / 2147483648 = a1 ∧ x / 4096 % 256 = a2 ∧ x / 1048576 % 2 = a3 ∧ x / 2097152 % 1024 = a4 := by
  refine ⟨⟨?_, ?_⟩, ?_, ?_, ?_, ?_, ?_, ?_⟩ <;> omega
theorem dgI (o g rd r a : Int) (ho : 0 ≤ o ∧ o < 128) (hg : 0 ≤ g ∧ g < 8) (h1 : 0 ≤ rd ∧ rd ≤ 31) (h2 : 0 ≤ r ∧ r ≤ 31) (h3 : 0 ≤ a ∧ a < 4096) (x : Int) (hx : x = o + g * 4096 + rd * 128 + r * 32768 + a * 1048576) :
    (0 ≤ x ∧ x ≤ 4294967295) ∧ x % 128 = o ∧ x / 4096 % 8 = g ∧ x / 128 % 32 = rd ∧ x / 32768 % 32 = r ∧ x / 1048576 = a := by
  refine ⟨⟨?_, ?_⟩, ?_, ?_, ?_, ?_, ?_⟩ <;> omega
theorem dgB (o g r s a1 a2 a3 a4 : Int) (ho : 0 ≤ o ∧ o < 128) (hg : 0 ≤ g ∧ g < 8) (h1 : 0 ≤ r ∧ r ≤ 31) (h2 : 0 ≤ s ∧ s ≤ 31) (p1 : 0 ≤ a1 ∧ a1 < 2) (p2 : 0 ≤ a2 ∧ a2 < 2) (p3 : 0 ≤ a3 ∧ a3 < 64) (p4 : 0 ≤ a4 ∧ a4 < 16) (x : Int) (hx : x = o + g * 4096 + r * 32768 + s * 1048576 + a1 * 2147483648 + a2 * 128 + a3 * 33554432 + a4 * 256) :
    (0 ≤ x ∧ x ≤ 4294967295) ∧ x % 128 = o ∧ x / 4096 % 8 = g ∧ x / 32768 % 32 = r ∧ x / 1048576 % 32 = s ∧ x / 2147483648 = a1 ∧ x / 128 % 2 = a2 ∧ x / 33554432 % 64 = a3 ∧ x / 256 % 16 = a4 := by
  refine ⟨⟨?_, ?_⟩, ?_, ?_, ?_, ?_, ?_, ?_, ?_, ?_⟩ <;> omega
theorem dgR (o g t d r s : Int) (ho : 0 ≤ o ∧ o < 128) (hg : 0 ≤ g ∧ g < 8) (ht : 0 ≤ t ∧ t < 128) (h0 : 0 ≤ d ∧ d ≤ 31) (h1 : 0 ≤ r ∧ r ≤ 31) (h2 : 0 ≤ s ∧ s ≤ 31) (x : Int) (hx : x = o + g * 4096 + t * 33554432 + d * 128 + r * 32768 + s * 1048576) :
    (0 ≤ x ∧ x ≤ 4294967295) ∧ x % 128 = o ∧ x / 4096 % 8 = g ∧ x / 33554432 = t ∧ x / 128 % 32 = d ∧ x / 32768 % 32 = r ∧ x / 1048576 % 32 = s := by
  refine ⟨⟨?_, ?_⟩, ?_, ?_, ?_, ?_, ?_, ?_⟩ <;> omega
theorem sgJ (i : Int) (hi : 0 ≤ i ∧ i ≤ 4294967295) (h : evB 21 i = true) : sgx 21 (i / 1048576 % 2 * 1048576 + i / 4096 % 256 * 4096 + i / 2048 % 2 * 2048 + i / 2 % 1024 * 2) = i := by
  unfold evB sgnB wrap32 at h
  simp only [Int.reduceEq, if_false, Bool.and_eq_true, decide_eq_true_eq] at h
  obtain ⟨h0, h1, h2⟩ := h
  have e : i / 1048576 % 2 * 1048576 + i / 4096 % 256 * 4096 + i / 2048 % 2 * 2048 + i / 2 % 1024 * 2 = i % 2097152 := by clear h1 h2; omega
  rw [e]
  unfold sgx
  simp only [Nat.reduceSub, Int.reducePow]
  clear e
  split <;> omega
theorem sgB (i : Int) (hi : 0 ≤ i ∧ i ≤ 4294967295) (h : evB 13 i = true) : sgx 13 (i / 4096 % 2 * 4096 + i / 2048 % 2 * 2048 + i / 32 % 64 * 32 + i / 2 % 16 * 2) = i := by
  unfold evB sgnB wrap32 at h
  simp only [Int.reduceEq, if_false, if_true, Bool.and_eq_true, decide_eq_true_eq] at h
  obtain ⟨h0, h1, h2⟩ := h
  have e : i / 4096 % 2 * 4096 + i / 2048 % 2 * 2048 + i / 32 % 64 * 32 + i / 2 % 16 * 2 = i % 8192 := by clear h1 h2; omega
  rw [e]
  unfold sgx
  simp only [Nat.reduceSub, Int.reducePow]
  clear e
  split <;> omega
theorem sgI (i : Int) (hi : 0 ≤ i ∧ i ≤ 4294967295) (h : sgnB 12 i = true) : sgx 12 (i % 4096) = i := by
  unfold sgnB wrap32 at h
  simp only [if_true, Bool.and_eq_true, decide_eq_true_eq] at h
  obtain ⟨h1, h2⟩ := h
  unfold sgx
  simp only [Nat.reduceSub, Int.reducePow]
  split <;> omega
theorem sgS (i : Int) (hi : 0 ≤ i ∧ i ≤ 4294967295) (h : sgnB 12 i = true) : sgx 12 (i / 32 % 128 * 32 + i % 32) = i := by
  have e : i / 32 % 128 * 32 + i % 32 = i % 4096 := by clear h; omega
  rw [e]
  exact sgI i hi h
end Go.Proofs.YtnooikjkjcflbacDoor
