/- Proved: the program's Number and Register, and the reference's, answer a number's text. Conditions: numbers are of their kinds. -/
import Derived.Test.YtlnbghhhifnbdaaDoorZUa
import Derived.Lib.Hide
namespace Go.Proofs.YtlnbghhhifnbdaaDoor
open Go.RowKit Go.Proofs.YtlnbghhhifnbdaaDoorW.PrintWords Go.Proofs.YtlnbghhhifnbdaaDoorW.PrintLast Go.Proofs.YtlnbghhhifnbdaaDoorW.PrintMore Go.Proofs.YtlnbghhhifnbdaaDoor.PIrTexts
set_option linter.unusedVariables false
set_option linter.unusedSimpArgs false

theorem map_cast_rev (l : List Nat) : (l.map fun (n : Nat) => (n : Int)).reverse = l.reverse.map fun (n : Nat) => (n : Int) := by rw [List.map_reverse]
/-- The loop: from a number u on, whose last digit is written already. -/
theorem num_loop (x0 : Int) : ∀ (d k : Nat) (u : Nat) (acc : List Nat), u < 10 ^ (d + 1) → u < 18446744073709551616 → acc.length + d ≤ 100 → d + 300 < k → d ≤ 30 →
    disasm_Number.l0 k x0 (u : Int) (acc.map fun (n : Nat) => (n : Int)) = some (strN ((acc ++ (if u < 10 then [] else chN (u / 10)) ++ if x0 < 0 then [45] else []).reverse)) := by
  intro d
  induction d with
  | zero =>
    intro k u acc h1 h2 h3 hk hd
    obtain ⟨k, rfl⟩ : ∃ n, k = n + 1 := ⟨k - 1, by omega⟩
    have h10 : u < 10 := by simpa using h1
    simp only [disasm_Number.l0]
    rw [if_neg (by omega), if_pos h10]
    by_cases hx : x0 < 0
    · rw [if_pos hx, if_pos hx, if_pos (by simp; omega), show (acc.map fun (n : Nat) => (n : Int)) ++ [45] = (acc ++ [45]).map fun (n : Nat) => (n : Int) by simp, rev_f k _ (by simp; omega) (by simp; omega), Option.bind_some, map_cast_rev, strOf_strN]
      simp
    · rw [if_neg hx, if_neg hx, rev_f k _ (by simp; omega) (by simp; omega), Option.bind_some, map_cast_rev, strOf_strN]
      simp
  | succ d ih =>
    intro k u acc h1 h2 h3 hk hd
    by_cases h10 : u < 10
    · obtain ⟨k, rfl⟩ : ∃ n, k = n + 1 := ⟨k - 1, by omega⟩
      simp only [disasm_Number.l0]
      rw [if_neg (by omega), if_pos h10]
      by_cases hx : x0 < 0
      · rw [if_pos hx, if_pos hx, if_pos (by simp; omega), show (acc.map fun (n : Nat) => (n : Int)) ++ [45] = (acc ++ [45]).map fun (n : Nat) => (n : Int) by simp, rev_f k _ (by simp; omega) (by simp; omega), Option.bind_some, map_cast_rev, strOf_strN]
        simp
      · rw [if_neg hx, if_neg hx, rev_f k _ (by simp; omega) (by simp; omega), Option.bind_some, map_cast_rev, strOf_strN]
        simp
    · obtain ⟨k, rfl⟩ : ∃ n, k = n + 1 := ⟨k - 1, by omega⟩
      simp only [disasm_Number.l0]
      have e1 : IntKind.u64.wrap (Int.tdiv (u : Int) 10) = ((u / 10 : Nat) : Int) := by
        rw [Int.tdiv_eq_ediv_of_nonneg (by omega), show (u : Int) / 10 = ((u / 10 : Nat) : Int) by omega]
        exact IntWalk.u64_in _ (by omega)
      have e2 : (IntKind.u64.wrap (48 + Int.tmod (((u / 10 : Nat) : Int)) 10)) % 256 = ((u / 10 % 10 + 48 : Nat) : Int) := by
        rw [Int.tmod_eq_emod_of_nonneg (by omega), IntWalk.u64_in _ (by omega)]
        omega
      rw [if_pos (by omega), if_pos (by simp; omega), e1, e2, show (acc.map fun (n : Nat) => (n : Int)) ++ [((u / 10 % 10 + 48 : Nat) : Int)] = (acc ++ [u / 10 % 10 + 48]).map fun (n : Nat) => (n : Int) by simp]
      · rw [ih k (u / 10) _ (by rw [Nat.pow_succ] at h1; omega) (by omega) (by simp; omega) (by omega) (by omega), if_neg h10]
        by_cases h2' : u / 10 < 10
        · rw [if_pos h2', chN_small _ h2', show u / 10 % 10 = u / 10 by omega]
          simp
        · rw [if_neg h2', chN_big (u / 10) (by omega)]
          simp
theorem number_f (n : Int) (h : -9223372036854775808 ≤ n ∧ n ≤ 9223372036854775807) : disasm_Number.f 400 n = some (numS n) := by
  have key : ∀ u : Nat, u < 18446744073709551616 → disasm_Number.j0 400 n (u : Int) = some (strN ((chN u ++ if n < 0 then [45] else []).reverse)) := by
    intro u hu
    have e : disasm_Number.j0 400 n (u : Int) = disasm_Number.l0 399 n (u : Int) ([(IntKind.u64.wrap (48 + (Int.tmod (u : Int) 10))) % 256] : List Int) := by
      rw [show (400 : Nat) = 399 + 1 from rfl]
      simp only [disasm_Number.j0]
    have e2 : (IntKind.u64.wrap (48 + Int.tmod (u : Int) 10)) % 256 = ((u % 10 + 48 : Nat) : Int) := by
      rw [Int.tmod_eq_emod_of_nonneg (by omega), IntWalk.u64_in _ (by omega)]
      omega
    rw [e, e2]
    have := num_loop n 19 399 u [u % 10 + 48] (by omega) hu (by simp) (by omega) (by omega)
    rw [show ([u % 10 + 48].map fun (n : Nat) => (n : Int)) = [((u % 10 + 48 : Nat) : Int)] from rfl] at this
    rw [this]
    by_cases h10 : u < 10
    · rw [if_pos h10, chN_small u h10, show u % 10 = u by omega]
      simp
    · rw [if_neg h10, chN_big u (by omega)]
      simp
  unfold disasm_Number.f numS numN
  by_cases hn : n < 0
  · rw [if_pos hn, show IntKind.u64.wrap (-(IntKind.u64.wrap n)) = ((n.natAbs : Nat) : Int) by
      simp only [show ∀ m, IntKind.u64.wrap m = m % 18446744073709551616 from fun _ => rfl]
      omega]
    exact key _ (by omega)
  · rw [if_neg hn, show IntKind.u64.wrap n = ((n.natAbs : Nat) : Int) by rw [IntWalk.u64_in _ (by omega)]; omega]
    exact key _ (by omega)
theorem chN_size (u : Nat) (h : u < 18446744073709551616) : (chN u).length ≤ 20 := chN_len 19 u (by omega)
theorem numS_size (n : Int) (h : -9223372036854775808 ≤ n ∧ n ≤ 9223372036854775807) : (numS n).size ≤ 21 := by
  unfold numS numN
  rw [strN_size, List.length_reverse, List.length_append]
  have := chN_size n.natAbs (by omega)
  split <;> simp <;> omega
/-- A register's text. -/
def regS (n : Int) : ByteArray := ⟨#[120]⟩ ++ numS n
theorem register_f (n : Int) (h : -9223372036854775808 ≤ n ∧ n ≤ 9223372036854775807) : disasm_Register.f 400 n = some (regS n) := by
  unfold disasm_Register.f
  rw [number_f n h, Option.bind_some, if_pos (by have := numS_size n h; omega)]
  rfl
theorem regS_size (n : Int) (h : -9223372036854775808 ≤ n ∧ n ≤ 9223372036854775807) : (regS n).size ≤ 22 := by
  unfold regS
  rw [ByteArray.size_append]
  have := numS_size n h
  show 1 + _ ≤ _
  omega
end Go.Proofs.YtlnbghhhifnbdaaDoor
