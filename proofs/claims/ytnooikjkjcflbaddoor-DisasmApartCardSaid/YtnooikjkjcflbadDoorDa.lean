/- Proved: plain facts on the words of the reference of layer 3 and of package decode: fields, powers, numbers of forms. Conditions: a word is a word. -/
import Derived.Test.YtnooikjkjcflbadDoorIn
import Derived.Test.YtnooikjkjcflbadDoorQa
import Derived.Test.YtnooikjkjcflbadDoorQa
import Derived.Laws.BitsLemmas
namespace Go.Proofs.YtnooikjkjcflbadDoor
open Go.RowKit Go.Proofs.YtnooikjkjcflbadDoorW.PrintWords Go.Proofs.YtnooikjkjcflbadDoorW.PrintLast Go.Proofs.YtnooikjkjcflbadDoorW.PrintMore Go.Proofs.YtnooikjkjcflbadDoor.PDisasmWords
set_option linter.unusedVariables false
set_option linter.unusedSimpArgs false

theorem dpow_dec : ∀ n : Nat, n ≤ 32 → mimesisref01_Power.f 40 n = some (2 ^ n) := by decide +kernel
theorem dpow (n : Nat) (hn : n ≤ 32) (k : Nat) (hk : 40 ≤ k) : mimesisref01_Power.f k n = some (2 ^ n) := at_rounds (mimesisref01_Power.mono n) hk (dpow_dec n hn)
theorem dbits (w : Int) (h : 0 ≤ w ∧ w ≤ 4294967295) (hi lo : Nat) (hl : lo ≤ hi) (hh : hi ≤ 31) (k : Nat) (hk : 40 ≤ k) : mimesisref03_bits.f k w hi lo = some (w / 2 ^ lo % 2 ^ (hi - lo + 1)) := by
  have e : wrap64 ((wrap64 ((hi : Int) - lo)) + 1) = ((hi - lo + 1 : Nat) : Int) := by unfold wrap64; omega
  have p0 : (0 : Int) < 2 ^ lo := Int.pow_pos (by decide)
  have p1 : (0 : Int) < 2 ^ (hi - lo + 1) := Int.pow_pos (by decide)
  have p2 : (2 : Int) ^ (hi - lo + 1) ≤ 2 ^ 32 := by exact_mod_cast Nat.pow_le_pow_right (by decide) (by omega)
  have u0 : IntKind.u64.wrap w = w := IntWalk.u64_in _ (by omega)
  have q0 : 0 ≤ w / 2 ^ lo := Int.ediv_nonneg h.1 (Int.le_of_lt p0)
  have q1 : w / 2 ^ lo ≤ w := Int.ediv_le_self _ h.1
  have u1 : IntKind.u64.wrap (w / 2 ^ lo) = w / 2 ^ lo := IntWalk.u64_in _ (by omega)
  have r0 : 0 ≤ w / 2 ^ lo % 2 ^ (hi - lo + 1) := Int.emod_nonneg _ (by omega)
  have r1 : w / 2 ^ lo % 2 ^ (hi - lo + 1) < 2 ^ (hi - lo + 1) := Int.emod_lt_of_pos _ p1
  unfold mimesisref03_bits.f mimesisref01_Bits.f
  rw [e, dpow lo (by omega) k hk, dpow (hi - lo + 1) (by omega) k hk]
  simp only [Option.bind_some]
  rw [if_neg (by omega), if_neg (by omega)]
  simp only [Option.bind_some, Option.some.injEq]
  rw [u0, Int.tdiv_eq_ediv_of_nonneg h.1, u1, Int.tmod_eq_emod_of_nonneg q0]
  exact Int.emod_eq_of_lt r0 (by omega)
theorem dext (x : Int) (n : Nat) (hn : 1 ≤ n) (hn2 : n ≤ 31) (h : 0 ≤ x ∧ x < 2 ^ n) (k : Nat) (hk : 40 ≤ k) : mimesisref01_Extend.f k x n = some (if x < 2 ^ (n - 1) then x else x + 4294967296 - 2 ^ n) := by
  have e : wrap64 ((n : Int) - 1) = ((n - 1 : Nat) : Int) := by unfold wrap64; omega
  have p1 : (0 : Int) < 2 ^ n := Int.pow_pos (by decide)
  have p2 : (2 : Int) ^ n ≤ 2 ^ 31 := by exact_mod_cast Nat.pow_le_pow_right (by decide) hn2
  have u0 : IntKind.u64.wrap x = x := IntWalk.u64_in _ (by omega)
  unfold mimesisref01_Extend.f
  rw [e, dpow n (by omega) k hk, dpow (n - 1) (by omega) k hk, show (32 : Int) = ((32 : Nat) : Int) from rfl, dpow 32 (by omega) k hk]
  simp only [Option.bind_some]
  rw [if_neg (by omega), u0, Int.tmod_eq_emod_of_nonneg h.1, Int.emod_eq_of_lt h.1 h.2]
  by_cases hx : x < 2 ^ (n - 1)
  · rw [if_neg (by omega), if_pos hx]
    simp only [Option.some.injEq]
    exact Int.emod_eq_of_lt h.1 (by omega)
  · rw [if_pos (by omega), if_neg hx]
    simp only [Option.some.injEq]
    have u1 : IntKind.u64.wrap (x + 2 ^ 32) = x + 2 ^ 32 := IntWalk.u64_in _ (by omega)
    rw [u1]
    have u2 : IntKind.u64.wrap (x + 2 ^ 32 - 2 ^ n) = x + 2 ^ 32 - 2 ^ n := IntWalk.u64_in _ (by omega)
    rw [u2]
    omega
theorem dfield (w : Int) (h : 0 ≤ w ∧ w ≤ 4294967295) :
    decode_field.f w 14 12 = some (w / 4096 % 8) ∧ decode_field.f w 11 7 = some (w / 128 % 32) ∧ decode_field.f w 19 15 = some (w / 32768 % 32) ∧ decode_field.f w 24 20 = some (w / 1048576 % 32) ∧ decode_field.f w 7 7 = some (w / 128 % 2) ∧
    decode_field.f w 30 25 = some (w / 33554432 % 64) ∧ decode_field.f w 11 8 = some (w / 256 % 16) ∧ decode_field.f w 19 12 = some (w / 4096 % 256) ∧ decode_field.f w 20 20 = some (w / 1048576 % 2) ∧ decode_field.f w 30 21 = some (w / 2097152 % 1024) := by
  have u : ∀ n : Int, IntKind.u32.wrap n = n % 4294967296 := fun _ => rfl
  have e0 : IntKind.u64.wrap (31 - 14) = 17 := by decide
  have e1 : IntKind.u64.wrap (31 - 11) = 20 := by decide
  have e2 : IntKind.u64.wrap (31 - 19) = 12 := by decide
  have e3 : IntKind.u64.wrap (31 - 24) = 7 := by decide
  have e4 : IntKind.u64.wrap (31 - 7) = 24 := by decide
  have e5 : IntKind.u64.wrap (31 - 30) = 1 := by decide
  have e6 : IntKind.u64.wrap (31 - 20) = 11 := by decide
  have b : IntKind.u32.bits = 32 := rfl
  have m : IntKind.u64.wrap (17 + 12) = 29 ∧ IntKind.u64.wrap (20 + 7) = 27 ∧ IntKind.u64.wrap (12 + 15) = 27 ∧ IntKind.u64.wrap (7 + 20) = 27 ∧ IntKind.u64.wrap (24 + 7) = 31 ∧ IntKind.u64.wrap (1 + 25) = 26 ∧ IntKind.u64.wrap (20 + 8) = 28 ∧ IntKind.u64.wrap (12 + 12) = 24 ∧ IntKind.u64.wrap (11 + 20) = 31 ∧ IntKind.u64.wrap (1 + 21) = 22 := by decide
  have q : (min (17 : Int).toNat 32 = 17) ∧ (min (20 : Int).toNat 32 = 20) ∧ (min (12 : Int).toNat 32 = 12) ∧ (min (7 : Int).toNat 32 = 7) ∧ (min (24 : Int).toNat 32 = 24) ∧ (min (1 : Int).toNat 32 = 1) ∧ (min (11 : Int).toNat 32 = 11) ∧ (min (29 : Int).toNat 32 = 29) ∧ (min (27 : Int).toNat 32 = 27) ∧ (min (31 : Int).toNat 32 = 31) ∧ (min (26 : Int).toNat 32 = 26) ∧ (min (28 : Int).toNat 32 = 28) ∧ (min (22 : Int).toNat 32 = 22) := by decide
  simp only [decode_field.f, shl, shr, e0, e1, e2, e3, e4, e5, e6, m, b, q, u, Option.some.injEq]
  simp only [Int.reduceLE, if_true, ↓reduceIte, Option.some.injEq, Int.reducePow]
  refine ⟨?_, ?_, ?_, ?_, ?_, ?_, ?_, ?_, ?_, ?_⟩ <;> omega
theorem dtop (w : Int) (h : 0 ≤ w ∧ w ≤ 4294967295) : decode_top.f w 20 = some (w / 2147483648 * 4293918720) ∧ decode_top.f w 12 = some (w / 2147483648 * 4294963200) ∧ decode_top.f w 11 = some (w / 2147483648 * 4294965248) := by
  have b : IntKind.i32.bits = 32 := rfl
  have q : (min (20 : Int).toNat 32 = 20) ∧ (min (12 : Int).toNat 32 = 12) ∧ (min (11 : Int).toNat 32 = 11) := by decide
  have hw : wrap32 w / 2147483648 = - (w / 2147483648) := by unfold wrap32; omega
  have hs : w / 2147483648 = 0 ∨ w / 2147483648 = 1 := by omega
  simp only [decode_top.f, shl, b, q, hw]
  rcases hs with hs | hs <;> rw [hs] <;> decide
end Go.Proofs.YtnooikjkjcflbadDoor
