/- Proved: facts on the bits of words: and, or, xor as operations on natural numbers; and together with or is the sum. Conditions: the numbers are words. -/
import Derived.Laws.BitsLemmas
import Derived.IntWalk
import Derived.WalkKit
namespace Go.Proofs.Ytnooikjkjcflbab.Bt

theorem u32w (n : Int) (h : 0 ≤ n) (h' : n < 2 ^ 32) : IntKind.u32.wrap n = n := IntWalk.u32_in n ⟨h, by omega⟩
theorem and_nat (a b : Nat) (ha : a < 4294967296) (hb : b < 4294967296) : bits .and .u32 (a : Int) (b : Int) = ((a &&& b : Nat) : Int) := (bits_nat .u32 32 (by decide) u32w a b ha hb).1
theorem or_nat (a b : Nat) (ha : a < 4294967296) (hb : b < 4294967296) : bits .or .u32 (a : Int) (b : Int) = ((a ||| b : Nat) : Int) := (bits_nat .u32 32 (by decide) u32w a b ha hb).2
theorem xor_nat (a b : Nat) (ha : a < 4294967296) (hb : b < 4294967296) : bits .xor .u32 (a : Int) (b : Int) = ((a ^^^ b : Nat) : Int) := by
  have ha' : a % 2 ^ IntKind.u32.bits = a := Nat.mod_eq_of_lt ha
  have hb' : b % 2 ^ IntKind.u32.bits = b := Nat.mod_eq_of_lt hb
  have h : a ^^^ b < 2 ^ 32 := Nat.xor_lt_two_pow ha hb
  simp only [bits, BitVec.ofInt_natCast, BitVec.toNat_xor, BitVec.toNat_ofNat, ha', hb']
  exact u32w _ (Int.natCast_nonneg _) (by exact_mod_cast h)
theorem and_add_or (a : Nat) : ∀ b : Nat, (a &&& b) + (a ||| b) = a + b := by
  induction a using Nat.strongRecOn with
  | _ a ih =>
    intro b
    by_cases h : a = 0
    · subst h; simp
    · have h1 := ih (a / 2) (by omega) (b / 2)
      rw [← Nat.and_div_two, ← Nat.or_div_two] at h1
      have h2 : (a &&& b) % 2 + (a ||| b) % 2 = a % 2 + b % 2 := by
        have e1 := Nat.and_mod_two_pow (a := a) (b := b) (n := 1)
        have e2 := Nat.or_mod_two_pow (a := a) (b := b) (n := 1)
        simp only [Nat.pow_one] at e1 e2
        rw [e1, e2]
        rcases Nat.mod_two_eq_zero_or_one a with ha | ha <;> rcases Nat.mod_two_eq_zero_or_one b with hb | hb <;> rw [ha, hb] <;> rfl
      omega
theorem and_or_sum (a b : Int) (ha : 0 ≤ a ∧ a ≤ 4294967295) (hb : 0 ≤ b ∧ b ≤ 4294967295) : bits .and .u32 a b + bits .or .u32 a b = a + b := by
  obtain ⟨a, rfl⟩ := Int.eq_ofNat_of_zero_le ha.1
  obtain ⟨b, rfl⟩ := Int.eq_ofNat_of_zero_le hb.1
  rw [and_nat a b (by omega) (by omega), or_nat a b (by omega) (by omega)]
  have := and_add_or a b
  omega
theorem xor_back (a b : Int) (ha : 0 ≤ a ∧ a ≤ 4294967295) (hb : 0 ≤ b ∧ b ≤ 4294967295) : bits .xor .u32 (bits .xor .u32 a b) b = a := by
  obtain ⟨a, rfl⟩ := Int.eq_ofNat_of_zero_le ha.1
  obtain ⟨b, rfl⟩ := Int.eq_ofNat_of_zero_le hb.1
  have h : a ^^^ b < 2 ^ 32 := Nat.xor_lt_two_pow (by omega) (by omega)
  rw [xor_nat a b (by omega) (by omega), xor_nat _ b (by omega) (by omega), Nat.xor_assoc, Nat.xor_self, Nat.xor_zero]
theorem and31 (b : Int) (hb : 0 ≤ b ∧ b ≤ 4294967295) : bits .and .u32 b 31 = b % 32 := bits_mask .u32 32 (by decide) u32w 5 (by decide) b hb.1 (by omega)
end Go.Proofs.Ytnooikjkjcflbab.Bt
