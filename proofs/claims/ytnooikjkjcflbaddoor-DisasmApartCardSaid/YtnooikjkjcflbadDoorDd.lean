/- Proved: the number of a form as package decode lays it is the reference's; and contracts of package decode's kind and laid. Conditions: a word is a word; the listed variable holds what the program's text lays in it. -/
import Derived.Test.YtnooikjkjcflbadDoorDc
import Derived.Test.YtnooikjkjcflbadDoorIr1
import Derived.Laws.BitsAllLaws
namespace Go.Proofs.YtnooikjkjcflbadDoor
open Go.RowKit Go.Proofs.YtnooikjkjcflbadDoorW.PrintWords Go.Proofs.YtnooikjkjcflbadDoorW.PrintLast Go.Proofs.YtnooikjkjcflbadDoorW.PrintMore Go.Proofs.YtnooikjkjcflbadDoor.PDisasmWords
set_option linter.unusedVariables false
set_option linter.unusedSimpArgs false

theorem dor (i : Nat) (hi : i ≤ 32) (x y : Int) (hx : 0 ≤ x) (hm : x % 2 ^ i = 0) (hx1 : x < 4294967296) (hy : 0 ≤ y) (hy1 : y < 2 ^ i) : bits .or .u32 x y = x + y :=
  bits_join .u32 32 (by decide) du32w i x y hx hm (by omega) hy hy1 (Int.lt_of_lt_of_le hy1 (by exact_mod_cast Nat.pow_le_pow_right (by decide) hi))
theorem nat_top (w : Nat) (h : w < 4294967296) : w &&& 4294963200 = w / 4096 * 4096 := by
  rw [and_split w 4294963200 12, show 4294963200 / 2 ^ 12 = 2 ^ 20 - 1 from rfl, show 4294963200 % 2 ^ 12 = 0 from rfl, Nat.and_two_pow_sub_one_eq_mod, Nat.and_zero]
  simp only [Nat.reducePow]
  omega
theorem dnot (w : Int) (h : 0 ≤ w ∧ w ≤ 4294967295) : bits .andNot .u32 w 4095 = w / 4096 * 4096 := by
  obtain ⟨a, rfl⟩ := Int.eq_ofNat_of_zero_le h.1
  have := u32_andNot_nat a 4095 (by omega) (by decide)
  rw [show 4294967295 - 4095 = 4294963200 from rfl, nat_top a (by omega)] at this
  exact this.trans (by omega)
theorem dnum (w : Int) (h : 0 ≤ w ∧ w ≤ 4294967295) (f : Int) (hf : 0 ≤ f ∧ f ≤ 9) : decode_number.f w f = some (immV w f) := by
  have t := dtop w h
  have d := dfield w h
  have u := dnot w h
  unfold decode_number.f
  simp only [t, d, u]
  simp only [Option.bind_some]
  clear t d u
  have e1 : w / 2097152 % 1024 * 2 % 4294967296 = w / 2097152 % 1024 * 2 := by omega
  have e2 : w / 1048576 % 2 * 2048 % 4294967296 = w / 1048576 % 2 * 2048 := by omega
  have e3 : w / 4096 % 256 * 4096 % 4294967296 = w / 4096 % 256 * 4096 := by omega
  have e4 : w / 128 % 2 * 2048 % 4294967296 = w / 128 % 2 * 2048 := by omega
  have e5 : w / 33554432 % 64 * 32 % 4294967296 = w / 33554432 % 64 * 32 := by omega
  have e6 : w / 256 % 16 * 2 % 4294967296 = w / 256 % 16 * 2 := by omega
  rw [e1, e2, e3, e4, e5, e6]
  clear e1 e2 e3 e4 e5 e6
  have p20 : (2 : Int) ^ 20 = 1048576 := rfl
  have p12 : (2 : Int) ^ 12 = 4096 := rfl
  have p11 : (2 : Int) ^ 11 = 2048 := rfl
  have p5 : (2 : Int) ^ 5 = 32 := rfl
  have j1 := dor 20 (by decide) (w / 2147483648 * 4293918720) (w / 4096 % 256 * 4096) (by omega) (by rw [p20]; omega) (by omega) (by omega) (by rw [p20]; omega)
  have j2 := dor 12 (by decide) (w / 2147483648 * 4293918720 + w / 4096 % 256 * 4096) (w / 1048576 % 2 * 2048) (by omega) (by rw [p12]; omega) (by omega) (by omega) (by rw [p12]; omega)
  have j3 := dor 11 (by decide) (w / 2147483648 * 4293918720 + w / 4096 % 256 * 4096 + w / 1048576 % 2 * 2048) (w / 2097152 % 1024 * 2) (by omega) (by rw [p11]; omega) (by omega) (by omega) (by rw [p11]; omega)
  have b1 := dor 12 (by decide) (w / 2147483648 * 4294963200) (w / 128 % 2 * 2048) (by omega) (by rw [p12]; omega) (by omega) (by omega) (by rw [p12]; omega)
  have b2 := dor 11 (by decide) (w / 2147483648 * 4294963200 + w / 128 % 2 * 2048) (w / 33554432 % 64 * 32) (by omega) (by rw [p11]; omega) (by omega) (by omega) (by rw [p11]; omega)
  have b3 := dor 5 (by decide) (w / 2147483648 * 4294963200 + w / 128 % 2 * 2048 + w / 33554432 % 64 * 32) (w / 256 % 16 * 2) (by omega) (by rw [p5]; omega) (by omega) (by omega) (by rw [p5]; omega)
  have s1 := dor 11 (by decide) (w / 2147483648 * 4294965248) (w / 33554432 % 64 * 32) (by omega) (by rw [p11]; omega) (by omega) (by omega) (by rw [p11]; omega)
  have s2 := dor 5 (by decide) (w / 2147483648 * 4294965248 + w / 33554432 % 64 * 32) (w / 128 % 32) (by omega) (by rw [p5]; omega) (by omega) (by omega) (by rw [p5]; omega)
  rw [j1, j2, j3, b1, b2, b3, s1, s2]
  clear j1 j2 j3 b1 b2 b3 s1 s2 p20 p12 p11 p5
  rcases (by omega : f = 0 ∨ f = 1 ∨ f = 2 ∨ f = 3 ∨ f = 4 ∨ f = 5 ∨ f = 6 ∨ f = 7 ∨ f = 8 ∨ f = 9) with rfl | rfl | rfl | rfl | rfl | rfl | rfl | rfl | rfl | rfl
  all_goals
    simp only [Int.reduceEq, if_true, if_false, ↓reduceIte, eq_self, immV, Option.some.injEq, sgx, Nat.reduceSub, Int.reducePow, wrap32, immJ, immB, immS]
  all_goals
    try (first | rfl | omega | (split <;> omega))
  all_goals
    have hs : w / 2147483648 = 0 ∨ w / 2147483648 = 1 := by omega
    have hd : w / 33554432 = w / 2147483648 * 64 + w / 33554432 % 64 := by omega
    have r1 : 0 ≤ w / 4096 % 256 ∧ w / 4096 % 256 < 256 := by omega
    have r2 : 0 ≤ w / 1048576 % 2 ∧ w / 1048576 % 2 < 2 := by omega
    have r3 : 0 ≤ w / 2097152 % 1024 ∧ w / 2097152 % 1024 < 1024 := by omega
    have r4 : 0 ≤ w / 128 % 2 ∧ w / 128 % 2 < 2 := by omega
    have r5 : 0 ≤ w / 33554432 % 64 ∧ w / 33554432 % 64 < 64 := by omega
    have r6 : 0 ≤ w / 256 % 16 ∧ w / 256 % 16 < 16 := by omega
    have r7 : 0 ≤ w / 128 % 32 ∧ w / 128 % 32 < 32 := by omega
    generalize w / 2147483648 = s at *
    generalize w / 4096 % 256 = q1 at *
    generalize w / 1048576 % 2 = q2 at *
    generalize w / 2097152 % 1024 = q3 at *
    generalize w / 128 % 2 = q4 at *
    generalize w / 33554432 % 64 = q5 at *
    generalize w / 256 % 16 = q6 at *
    generalize w / 128 % 32 = q7 at *
    generalize w / 33554432 = q8 at *
    clear h hf
    rcases hs with rfl | rfl <;> split <;> omega
theorem dbranch (g : Int) (hg : 0 ≤ g ∧ g ≤ 7) : decode_branch.f 5 g = some (kB g) := by
  rcases (by omega : g = 0 ∨ g = 1 ∨ g = 2 ∨ g = 3 ∨ g = 4 ∨ g = 5 ∨ g = 6 ∨ g = 7) with rfl | rfl | rfl | rfl | rfl | rfl | rfl | rfl <;> decide +kernel
theorem dload (g : Int) (hg : 0 ≤ g ∧ g ≤ 7) : decode_load.f 5 g = some (kL g) := by
  rcases (by omega : g = 0 ∨ g = 1 ∨ g = 2 ∨ g = 3 ∨ g = 4 ∨ g = 5 ∨ g = 6 ∨ g = 7) with rfl | rfl | rfl | rfl | rfl | rfl | rfl | rfl <;> decide +kernel
theorem dimmediate (w : Int) (h : 0 ≤ w ∧ w ≤ 4294967295) : decode_immediate.f w = some (kI (w / 4096 % 8) (w / 33554432)) := by
  have hg : 0 ≤ w / 4096 % 8 ∧ w / 4096 % 8 ≤ 7 := by omega
  unfold decode_immediate.f
  rw [(dfield w h).1]
  simp only [Option.bind_some]
  generalize w / 4096 % 8 = g at *
  generalize w / 33554432 = t at *
  rcases (by omega : g = 0 ∨ g = 1 ∨ g = 2 ∨ g = 3 ∨ g = 4 ∨ g = 5 ∨ g = 6 ∨ g = 7) with rfl | rfl | rfl | rfl | rfl | rfl | rfl | rfl
  all_goals
    simp only [kI, Int.reduceEq, if_true, if_false, ↓reduceIte, eq_self]
    try (by_cases t0 : t = 0 <;> simp [t0] <;> (try (by_cases t1 : t = 32 <;> simp [t1])))
theorem dsystem (w : Int) (h : 0 ≤ w ∧ w ≤ 4294967295) : decode_system.f 5 w = some (kY (w / 4096 % 8) w) := by
  have hg : 0 ≤ w / 4096 % 8 ∧ w / 4096 % 8 ≤ 7 := by omega
  unfold decode_system.f
  rw [(dfield w h).1]
  simp only [Option.bind_some]
  generalize w / 4096 % 8 = g at *
  rcases (by omega : g = 0 ∨ g = 1 ∨ g = 2 ∨ g = 3 ∨ g = 4 ∨ g = 5 ∨ g = 6 ∨ g = 7) with rfl | rfl | rfl | rfl | rfl | rfl | rfl | rfl
  all_goals
    simp [kY, decode_system.j0, wrap64]
    try (by_cases w0 : w = 115 <;> simp [w0] <;> (try (by_cases w1 : w = 1048691 <;> simp [w1] <;> (try (by_cases w2 : w = 807403635 <;> simp [w2] <;> (try (by_cases w3 : w = 273678451 <;> simp [w3])))))))
end Go.Proofs.YtnooikjkjcflbadDoor
