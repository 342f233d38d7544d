/- Proved: fields of a word that are put beside each other by or are added; and the contract of the function that puts one (encode.Encode's own). Conditions: words are words; the field's place is empty. -/
import Derived.Test.YtnooikjkjcflbabDoorDc
namespace Go.Proofs.YtnooikjkjcflbabDoor
open Go.RowKit
set_option linter.unusedVariables false
set_option linter.unusedSimpArgs false

theorem nat_or_mid (W f p n : Nat) (h : W % 2 ^ (p + n) < 2 ^ p) (hf : f < 2 ^ n) : W ||| f * 2 ^ p = W + f * 2 ^ p := by
  have h0 : W &&& f * 2 ^ p = 0 := by
    rw [and_split W (f * 2 ^ p) p, Nat.mul_div_cancel _ (Nat.pow_pos (by decide)), Nat.mul_mod_left, Nat.and_zero]
    have h1 : W / 2 ^ p % 2 ^ n = 0 := by
      have e : W % 2 ^ (p + n) / 2 ^ p = W / 2 ^ p % 2 ^ n := by rw [Nat.pow_add, Nat.mod_mul_right_div_self]
      rw [← e]
      exact Nat.div_eq_of_lt h
    rw [and_split (W / 2 ^ p) f n, Nat.div_eq_of_lt hf, h1, Nat.and_zero, Nat.zero_and]
    simp
  have h2 : ∀ a b : Nat, (a &&& b) + (a ||| b) = a + b := by
    intro a
    induction a using Nat.strongRecOn with
    | _ a ih =>
      intro b
      by_cases h : a = 0
      · subst h; simp
      · have h1 := ih (a / 2) (by omega) (b / 2)
        rw [← Nat.and_div_two, ← Nat.or_div_two] at h1
        have h2 : (a &&& b) % 2 + (a ||| b) % 2 = a % 2 + b % 2 := by
          have e1 := Nat.and_mod_two_pow (a := a) (b := b) (n := 1)
          have e2 := Nat.or_mod_two_pow (a := a) (b := b) (n := 1)
          simp only [Nat.pow_one] at e1 e2
          rw [e1, e2]
          rcases Nat.mod_two_eq_zero_or_one a with ha | ha <;> rcases Nat.mod_two_eq_zero_or_one b with hb | hb <;> rw [ha, hb] <;> rfl
        omega
  have := h2 W (f * 2 ^ p)
  omega
/-- A field of n bits, put at p, where a word's bits are 0. -/
theorem or_mid (W f : Int) (p n : Nat) (hW : 0 ≤ W ∧ W ≤ 4294967295) (hf : 0 ≤ f ∧ f < 2 ^ n) (hpn : p + n ≤ 32) (h : W % 2 ^ (p + n) < 2 ^ p) : bits .or .u32 W (f * 2 ^ p) = W + f * 2 ^ p := by
  obtain ⟨a, rfl⟩ := Int.eq_ofNat_of_zero_le hW.1
  obtain ⟨b, rfl⟩ := Int.eq_ofNat_of_zero_le hf.1
  have hb : b < 2 ^ n := by exact_mod_cast hf.2
  have h' : a % 2 ^ (p + n) < 2 ^ p := by exact_mod_cast h
  have hlt : b * 2 ^ p < 4294967296 := by
    have h1 : b * 2 ^ p < 2 ^ n * 2 ^ p := Nat.mul_lt_mul_of_pos_right hb (Nat.pow_pos (by decide))
    have h2 : 2 ^ n * 2 ^ p ≤ 2 ^ 32 := by rw [← Nat.pow_add]; exact Nat.pow_le_pow_right (by decide) (by omega)
    omega
  have e := dor_nat a (b * 2 ^ p) (by omega) hlt
  rw [nat_or_mid a b p n h' hb] at e
  exact_mod_cast e
def PutAt (from' many at' : Int) (p n : Nat) : Prop :=
  (from' = 0 ∧ many = 5 ∧ at' = 7 ∧ p = 7 ∧ n = 5) ∨ (from' = 0 ∧ many = 5 ∧ at' = 15 ∧ p = 15 ∧ n = 5) ∨ (from' = 0 ∧ many = 5 ∧ at' = 20 ∧ p = 20 ∧ n = 5) ∨ (from' = 0 ∧ many = 12 ∧ at' = 20 ∧ p = 20 ∧ n = 12) ∨
  (from' = 12 ∧ many = 20 ∧ at' = 12 ∧ p = 12 ∧ n = 20) ∨ (from' = 20 ∧ many = 1 ∧ at' = 31 ∧ p = 31 ∧ n = 1) ∨ (from' = 12 ∧ many = 8 ∧ at' = 12 ∧ p = 12 ∧ n = 8) ∨ (from' = 11 ∧ many = 1 ∧ at' = 20 ∧ p = 20 ∧ n = 1) ∨ (from' = 1 ∧ many = 10 ∧ at' = 21 ∧ p = 21 ∧ n = 10) ∨
  (from' = 12 ∧ many = 1 ∧ at' = 31 ∧ p = 31 ∧ n = 1) ∨ (from' = 11 ∧ many = 1 ∧ at' = 7 ∧ p = 7 ∧ n = 1) ∨ (from' = 5 ∧ many = 6 ∧ at' = 25 ∧ p = 25 ∧ n = 6) ∨ (from' = 1 ∧ many = 4 ∧ at' = 8 ∧ p = 8 ∧ n = 4) ∨ (from' = 5 ∧ many = 7 ∧ at' = 25 ∧ p = 25 ∧ n = 7)
set_option maxHeartbeats 8000000 in
theorem put_c (from' many at' : Int) (p n : Nat) (hp : PutAt from' many at' p n) (x : Int) (hx : 0 ≤ x ∧ x ≤ 4294967295) (b : Nat) (W : Int) (w : World) (hc : w.cell? ⟨b, 0, none⟩ = some (.int .u32 W)) (hz : w.frozen? ⟨b, 0, none⟩ = false) :
    Calls Tryd.prog 52 #[.int .u32 x, .int .u64 from', .int .u64 many, .int .u64 at', .pointer (some ⟨b, 0, none⟩)] w fun e w' => e = .returned (.tuple #[]) ∧ w.setCell ⟨b, 0, none⟩ (.int .u32 (bits .or .u32 W (x / 2 ^ from'.toNat % 2 ^ n * 2 ^ p))) = w' := by
  obtain ⟨h0, h1⟩ := hx
  rcases hp with ⟨rfl, rfl, rfl, rfl, rfl⟩ | ⟨rfl, rfl, rfl, rfl, rfl⟩ | ⟨rfl, rfl, rfl, rfl, rfl⟩ | ⟨rfl, rfl, rfl, rfl, rfl⟩ | ⟨rfl, rfl, rfl, rfl, rfl⟩ | ⟨rfl, rfl, rfl, rfl, rfl⟩ | ⟨rfl, rfl, rfl, rfl, rfl⟩ | ⟨rfl, rfl, rfl, rfl, rfl⟩ | ⟨rfl, rfl, rfl, rfl, rfl⟩ | ⟨rfl, rfl, rfl, rfl, rfl⟩ | ⟨rfl, rfl, rfl, rfl, rfl⟩ | ⟨rfl, rfl, rfl, rfl, rfl⟩ | ⟨rfl, rfl, rfl, rfl, rfl⟩ | ⟨rfl, rfl, rfl, rfl, rfl⟩
  all_goals
    go_enter Tryd.func52, Tryd.ntmps52
    go_wp2
    go_end0
    refine ⟨rfl, congrArg (fun v => w.setCell ⟨b, 0, none⟩ (.int .u32 (bits .or .u32 W v))) ?_⟩
    simp only [Int.reduceToNat, Int.reducePow]
    omega
end Go.Proofs.YtnooikjkjcflbabDoor
