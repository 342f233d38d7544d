/- Plain arithmetic: the upper half of a product of two words by halves of 16 bits. Conditions: both are words. -/
import Derived.Test.YtnooikjkjcflbaaMd4
import Derived.Laws.BitsLemmas
namespace Go.Proofs.Ytnooikjkjcflbaa
open Go.RowKit

theorem and16 (x : Int) (h : 0 ≤ x) (h' : x ≤ 4294967295) : Go.bits .and .u32 x 65535 = x % 65536 := bits_mask .u32 32 (by decide) (fun n h h' => IntWalk.u32_in n ⟨h, by omega⟩) 16 (by decide) x h (by omega)
theorem prod_bd (x y : Int) (h : 0 ≤ x) (h' : x ≤ 65535) (k : 0 ≤ y) (k' : y ≤ 65535) : 0 ≤ x * y ∧ x * y ≤ 4294836225 := by
  refine ⟨Int.mul_nonneg h k, ?_⟩
  have := Int.mul_le_mul h' k' k (by omega : (0 : Int) ≤ 65535)
  omega
theorem split_mul (a b : Int) : a * b = (a / 65536) * (b / 65536) * 4294967296 + ((a / 65536) * (b % 65536) + (a % 65536) * (b / 65536)) * 65536 + (a % 65536) * (b % 65536) := by
  have ea : a = a / 65536 * 65536 + a % 65536 := by omega
  have eb : b = b / 65536 * 65536 + b % 65536 := by omega
  generalize a / 65536 = x at *
  generalize a % 65536 = y at *
  generalize b / 65536 = z at *
  generalize b % 65536 = v at *
  subst ea eb
  grind
theorem wide_eq (a b : Int) (ha : 0 ≤ a) (ha' : a ≤ 4294967295) (hb : 0 ≤ b) (hb' : b ≤ 4294967295) : wideH a b = a * b / 4294967296 := by
  have hs := split_mul a b
  obtain ⟨p0, p1⟩ := prod_bd (a / 65536) (b / 65536) (by omega) (by omega) (by omega) (by omega)
  obtain ⟨q0, q1⟩ := prod_bd (a / 65536) (b % 65536) (by omega) (by omega) (by omega) (by omega)
  obtain ⟨r0, r1⟩ := prod_bd (a % 65536) (b / 65536) (by omega) (by omega) (by omega) (by omega)
  obtain ⟨s0, s1⟩ := prod_bd (a % 65536) (b % 65536) (by omega) (by omega) (by omega) (by omega)
  unfold wideH
  rw [and16 a ha ha', and16 b hb hb']
  generalize a / 65536 * (b / 65536) = P at *
  generalize a / 65536 * (b % 65536) = Q at *
  generalize a % 65536 * (b / 65536) = R at *
  generalize a % 65536 * (b % 65536) = S at *
  have e1 : (Q % 4294967296 + S % 4294967296 / 65536) % 4294967296 = Q + S / 65536 := by omega
  rw [e1, and16 _ (by omega) (by omega), hs]
  omega
end Go.Proofs.Ytnooikjkjcflbaa
