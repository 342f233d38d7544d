/- Proved: the program's Number and Register, and the reference's, answer a number's text. Conditions: numbers are of their kinds. -/
import Derived.Test.YtlnbghhhifnbdaaDoorZUa
import Derived.Lib.Hide
namespace Go.Proofs.YtlnbghhhifnbdaaDoor
open Go.RowKit Go.Proofs.YtlnbghhhifnbdaaDoorW.PrintWords Go.Proofs.YtlnbghhhifnbdaaDoorW.PrintLast Go.Proofs.YtlnbghhhifnbdaaDoorW.PrintMore Go.Proofs.YtlnbghhhifnbdaaDoor.PIrTexts
set_option linter.unusedVariables false
set_option linter.unusedSimpArgs false

theorem map_cast_rev (l : List Nat) : (l.map fun (n : Nat) => (n : Int)).reverse = l.reverse.map fun (n : Nat) => (n : Int) := by rw [List.map_reverse]
/-- The loop: from a number u on, whose last digit is written already. -/
theorem num_loop (x0 : Int) : ∀ (d k : Nat) (u : Nat) (acc : List Nat), u < 10 ^ (d + 1) → u < 18446744073709551616 → acc.length + d ≤ 100 → d + 300 < k → d ≤ 30 →
    disasm_Number.l0 k x0 (u : Int) (acc.map fun (n : Nat) => (n : Int)) = some (strN ((acc ++ (if u < 10 then [] else chN (u / 10)) ++ if x0 < 0 then [45] else []).reverse)) := by
  intro d
  induction d with
  | zero =>
    intro k u acc h1 h2 h3 hk hd
    obtain ⟨k, rfl⟩ : ∃ n, k = n + 1 := ⟨k - 1, by omega⟩
    have h10 : u < 10 := by simpa using h1
    simp only [disasm_Number.l0]
    rw [if_neg (by omega), if_pos h10]
    by_cases hx : x0 < 0
    · rw [if_pos hx, if_pos hx, if_pos (by simp; omega), show (acc.map fun (n : Nat) => (n : Int)) ++ [45] = (acc ++ [45]).map fun (n : Nat) => (n : Int) by simp, rev_f k _ (by simp; omega) (by simp; omega), Option.bind_some, map_cast_rev, strOf_strN]
      simp
    · rw [if_neg hx, if_neg hx, rev_f k _ (by simp; omega) (by simp; omega), Option.bind_some, map_cast_rev, strOf_strN]
      simp
  | succ d ih =>
    intro k u acc h1 h2 h3 hk hd
    by_cases h10 : u < 10
    · obtain ⟨k, rfl⟩ : ∃ n, k = n + 1 := ⟨k - 1, by omega⟩
      simp only [disasm_Number.l0]
      rw [if_neg (by omega), if_pos h10]
      by_cases hx : x0 < 0
      · rw [if_pos hx, if_pos hx, if_pos (by simp; omega), show (acc.map fun (n : Nat) => (n : Int)) ++ [45] = (acc ++ [45]).map fun (n : Nat) => (n : Int) by simp, rev_f k _ (by simp; omega) (by simp; omega), Option.bind_some, map_cast_rev, strOf_strN]
        simp
      · rw [if_neg hx, if_neg hx, rev_f k _ (by simp; omega) (by simp; omega), Option.bind_some, map_cast_rev, strOf_strN]
        simp
    · obtain ⟨k, rfl⟩ : ∃ n, k = n + 1 := ⟨k - 1, by omega⟩
      simp only [disasm_Number.l0]
      have e1 : IntKind.u64.wrap (Int.tdiv (u : Int) 10) = ((u / 10 : Nat) : Int) := by
        rw [Int.tdiv_eq_ediv_of_nonneg (by omega), show (u : Int) / 10 = ((u / 10 : Nat) : Int) by omega]
        exact IntWalk.u64_in _ (by omega)
      have e2 : (IntKind.u64.wrap (48 + Int.tmod (((u / 10 : Nat) : Int)) 10)) % 256 = ((u / 10 % 10 + 48 : Nat) : Int) := by
        rw [Int.tmod_eq_emod_of_nonneg (by omega), IntWalk.u64_in _ (by omega)]
        omega
      rw [if_pos (by omega), if_pos (by simp; omega), e1, e2, show (acc.map fun (n : Nat) => (n : Int)) ++ [((u / 10 % 10 + 48 : Nat) : Int)] = (acc ++ [u / 10 % 10 + 48]).map fun (n : Nat) => (n : Int) by simp]
      · rw [ih k (u / 10) _ (by rw [Nat.pow_succ] at h1; omega) (by omega) (by simp; omega) (by omega) (by omega), if_neg h10]
        by_cases h2' : u / 10 < 10
        · rw [if_pos h2', chN_small _ h2', show u / 10 % 10 = u / 10 by omega]
          simp
        · rw [if_neg h2', chN_big (u / 10) (by omega)]
          simp
theorem number_f (n : Int) (h : -9223372036854775808 ≤ n ∧ n ≤ 9223372036854775807) : disasm_Number.f 400 n = some (numS n) := by
  have key : ∀ u : Nat, u < 18446744073709551616 → disasm_Number.j0 400 n (u : Int) = some (strN ((chN u ++ if n < 0 then [45] else []).reverse)) := by
    intro u hu
    have e : disasm_Number.j0 400 n (u : Int) = disasm_Number.l0 399 n (u : Int) ([(IntKind.u64.wrap (48 + (Int.tmod (u : Int) 10))) % 256] : List Int) := by
      rw [show (400 : Nat) = 399 + 1 from rfl]
      simp only [disasm_Number.j0]
    have e2 : (IntKind.u64.wrap (48 + Int.tmod (u : Int) 10)) % 256 = ((u % 10 + 48 : Nat) : Int) := by
      rw [Int.tmod_eq_emod_of_nonneg (by omega), IntWalk.u64_in _ (by omega)]
      omega
    rw [e, e2]
    have := num_loop n 19 399 u [u % 10 + 48] (by omega) hu (by simp) (by omega) (by omega)
    rw [show ([u % 10 + 48].map fun (n : Nat) => (n : Int)) = [((u % 10 + 48 : Nat) : Int)] from rfl] at this
    rw [this]
    by_cases h10 : u < 10
    · rw [if_pos h10, chN_small u h10, show u % 10 = u by omega]
      simp
    · rw [if_neg h10, chN_big u (by omega)]
      simp
  unfold disasm_Number.f numS numN
  by_cases hn : n < 0
  · rw [if_pos hn, show IntKind.u64.wrap (-(IntKind.u64.wrap n)) = ((n.natAbs : Nat) : Int) by
      simp only [show ∀ m, IntKind.u64.wrap m = m % 18446744073709551616 from fun _ => rfl]
      omega]
    exact key _ (by omega)
  · rw [if_neg hn, show IntKind.u64.wrap n = ((n.natAbs : Nat) : Int) by rw [IntWalk.u64_in _ (by omega)]; omega]
    exact key _ (by omega)
theorem dig_ch : ∀ d : Nat, d < 10 → (⟨#[48, 49, 50, 51, 52, 53, 54, 55, 56, 57]⟩ : ByteArray).extract d (d + 1) = strN [d + 48] := by
  intro d hd
  match d, hd with
  | 0, _ => rfl
  | 1, _ => rfl
  | 2, _ => rfl
  | 3, _ => rfl
  | 4, _ => rfl
  | 5, _ => rfl
  | 6, _ => rfl
  | 7, _ => rfl
  | 8, _ => rfl
  | 9, _ => rfl
theorem dig_app (u : Nat) (s : List Nat) : (⟨#[48, 49, 50, 51, 52, 53, 54, 55, 56, 57]⟩ : ByteArray).extract (u % 10) (u % 10 + 1) ++ strN s = strN ((u % 10 + 48) :: s) := by
  rw [dig_ch (u % 10) (Nat.mod_lt _ (by decide)), ← strN_append]
  rfl
theorem dig_size (u : Nat) : ((⟨#[48, 49, 50, 51, 52, 53, 54, 55, 56, 57]⟩ : ByteArray).extract (u % 10) (u % 10 + 1)).size = 1 := by
  rw [dig_ch (u % 10) (Nat.mod_lt _ (by decide)), strN_size]
  rfl
theorem dig_fits (u : Nat) (s : List Nat) (i : Nat) (hs : s.length ≤ i) (hi : i ≤ 20) : ((⟨#[48, 49, 50, 51, 52, 53, 54, 55, 56, 57]⟩ : ByteArray).extract (u % 10) (u % 10 + 1)).size + (strN s).size ≤ 9223372036854775807 := by
  rw [dig_size, strN_size]
  omega
theorem ee1 (u : Nat) (h2 : u < 18446744073709551616) : IntKind.u64.wrap (Int.tdiv (u : Int) 10) = ((u / 10 : Nat) : Int) := by
  rw [Int.tdiv_eq_ediv_of_nonneg (by omega), show (u : Int) / 10 = ((u / 10 : Nat) : Int) by omega]
  exact IntWalk.u64_in _ (by omega)
theorem ee2 (u : Nat) : wrap64 (Int.tmod (u : Int) 10) = ((u % 10 : Nat) : Int) := by
  rw [Int.tmod_eq_emod_of_nonneg (by omega)]
  unfold wrap64; omega
theorem ee3 (u : Nat) : wrap64 (((u % 10 : Nat) : Int) + 1) = ((u % 10 + 1 : Nat) : Int) := by unfold wrap64; omega
theorem ee4 (i : Nat) (h : i ≤ 100) : wrap64 ((i : Int) + 1) = ((i + 1 : Nat) : Int) := by unfold wrap64; omega
set_option maxHeartbeats 4000000 in
theorem digits_loop : ∀ (m k i u : Nat) (s : List Nat), i + m = 20 → u < 10 ^ m → u < 18446744073709551616 → m < k → s.length ≤ i →
    mimesisref05_Digits.l0 k (u : Int) (strN s) (i : Int) = some (strN ((if u = 0 ∧ 0 < i then [] else (chN u).reverse) ++ s)) := by
  intro m
  induction m with
  | zero =>
    intro k i u s hi h1 h2 hk hs
    obtain ⟨k, rfl⟩ : ∃ n, k = n + 1 := ⟨k - 1, by omega⟩
    rw [mimesisref05_Digits.l0, if_neg (by omega), if_pos ⟨by omega, by omega⟩]
    rfl
  | succ m ih =>
    intro k i u s hi h1 h2 hk hs
    obtain ⟨k, rfl⟩ : ∃ n, k = n + 1 := ⟨k - 1, by omega⟩
    have E5 := Lib.hid (dig_app u s)
    have E6 := Lib.hid (dig_fits u s i hs (by omega))
    have E7 : Hid (∀ s', s'.length ≤ i + 1 → mimesisref05_Digits.l0 k ((u / 10 : Nat) : Int) (strN s') ((i + 1 : Nat) : Int) = some (strN ((if u / 10 = 0 then [] else (chN (u / 10)).reverse) ++ s'))) := Lib.hid (by
      intro s' hs'
      rw [ih k (i + 1) (u / 10) s' (by omega) (by rw [Nat.pow_succ] at h1; omega) (by omega) (by omega) (by omega)]
      simp)
    have FIN := Lib.hid (show mimesisref05_Digits.l0 k ((u / 10 : Nat) : Int) (strN ((u % 10 + 48) :: s)) ((i + 1 : Nat) : Int) = some (strN ((chN u).reverse ++ s)) by
      rw [E7.out _ (by simp; omega)]
      by_cases h10 : u < 10
      · rw [if_pos (by omega), chN_small u h10, show u % 10 = u by omega]
        simp
      · rw [if_neg (by omega), chN_big u (by omega)]
        simp)
    clear ih
    rw [mimesisref05_Digits.l0, ee1 u h2, ee2 u, ee3 u, ee4 i (by omega)]
    rw [if_pos (by omega)]
    by_cases hu : (u : Int) > 0
    · rw [if_pos hu, if_pos (by omega), if_pos (by omega), if_pos (by omega), Int.toNat_natCast, Int.toNat_natCast, if_pos E6.out, E5.out, FIN.out, if_neg (by omega)]
    · rw [if_neg hu]
      by_cases hi0 : (i : Int) = 0
      · rw [if_pos hi0, if_pos (by omega), if_pos (by omega), if_pos (by omega), Int.toNat_natCast, Int.toNat_natCast, if_pos E6.out, E5.out, FIN.out, if_neg (by omega)]
      · rw [if_neg hi0, E7.out s (by omega), if_pos (by omega), if_pos ⟨by omega, by omega⟩]
theorem digits_f (u : Nat) (h : u < 18446744073709551616) : mimesisref05_Digits.f 30 (u : Int) = some (strN (chN u).reverse) := by
  have := digits_loop 20 30 0 u [] (by omega) (by omega) h (by omega) (by simp)
  rw [if_neg (by omega), List.append_nil] at this
  exact this
theorem chN_size (u : Nat) (h : u < 18446744073709551616) : (chN u).length ≤ 20 := chN_len 19 u (by omega)
theorem rnumber_f (n : Int) (h : -9223372036854775808 ≤ n ∧ n ≤ 9223372036854775807) : mimesisref05_Number.f 30 n = some (numS n) := by
  unfold mimesisref05_Number.f numS numN
  by_cases hn : n < 0
  · rw [if_pos hn, show IntKind.u64.wrap ((IntKind.u64.wrap (wrap64 (-(wrap64 (n + 1))))) + 1) = ((n.natAbs : Nat) : Int) by
      have a1 : wrap64 (n + 1) = n + 1 := by unfold wrap64; omega
      have a2 : wrap64 (-(n + 1)) = -(n + 1) := by unfold wrap64; omega
      rw [a1, a2, IntWalk.u64_in (-(n + 1)) (by omega), IntWalk.u64_in _ (by omega)]
      omega, digits_f _ (by omega), Option.bind_some, if_pos (by rw [strN_size, List.length_reverse]; have := chN_size n.natAbs (by omega); omega), if_pos hn]
    rw [show (⟨#[45]⟩ : ByteArray) = strN [45] from rfl, ← strN_append]
    simp
  · rw [if_neg hn, if_neg hn, show IntKind.u64.wrap n = ((n.natAbs : Nat) : Int) by rw [IntWalk.u64_in _ (by omega)]; omega, digits_f _ (by omega), Option.bind_some, List.append_nil]
theorem numS_size (n : Int) (h : -9223372036854775808 ≤ n ∧ n ≤ 9223372036854775807) : (numS n).size ≤ 21 := by
  unfold numS numN
  rw [strN_size, List.length_reverse, List.length_append]
  have := chN_size n.natAbs (by omega)
  split <;> simp <;> omega
/-- A register's text. -/
def regS (n : Int) : ByteArray := ⟨#[120]⟩ ++ numS n
theorem register_f (n : Int) (h : -9223372036854775808 ≤ n ∧ n ≤ 9223372036854775807) : disasm_Register.f 400 n = some (regS n) := by
  unfold disasm_Register.f
  rw [number_f n h, Option.bind_some, if_pos (by have := numS_size n h; omega)]
  rfl
theorem regS_size (n : Int) (h : -9223372036854775808 ≤ n ∧ n ≤ 9223372036854775807) : (regS n).size ≤ 22 := by
  unfold regS
  rw [ByteArray.size_append]
  have := numS_size n h
  show 1 + _ ≤ _
  omega
end Go.Proofs.YtlnbghhhifnbdaaDoor
