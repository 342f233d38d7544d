/- Proved: the text of a number: the digits of the program's Number and of the reference's are one list; a reversed slice. Conditions: numbers are of their kinds. -/
import Derived.Test.YtlnbghhhifnbdaaDoorZQd
namespace Go.Proofs.YtlnbghhhifnbdaaDoor
open Go.RowKit Go.Proofs.YtlnbghhhifnbdaaDoorW.PrintWords Go.Proofs.YtlnbghhhifnbdaaDoorW.PrintLast Go.Proofs.YtlnbghhhifnbdaaDoorW.PrintMore Go.Proofs.YtlnbghhhifnbdaaDoor.PIrTexts
set_option linter.unusedVariables false
set_option linter.unusedSimpArgs false

def strN (l : List Nat) : ByteArray := ⟨(l.map UInt8.ofNat).toArray⟩
theorem strN_size (a : List Nat) : (strN a).size = a.length := by simp [strN, ByteArray.size]
theorem strOf_strN (l : List Nat) : strOfNums (l.map fun (n : Nat) => (n : Int)) = strN l := by
  simp [strOfNums, strN]
/-- A number's digits, the last one first. -/
def digN (u : Nat) : List Nat := if h : u < 10 then [u] else (u % 10) :: digN (u / 10)
termination_by u
decreasing_by omega
theorem digN_small (u : Nat) (h : u < 10) : digN u = [u] := by rw [digN, dif_pos h]
theorem digN_big (u : Nat) (h : 10 ≤ u) : digN u = (u % 10) :: digN (u / 10) := by rw [digN, dif_neg (by omega)]
def chN (u : Nat) : List Nat := (digN u).map (· + 48)
theorem chN_small (u : Nat) (h : u < 10) : chN u = [u + 48] := by simp [chN, digN_small u h]
theorem chN_big (u : Nat) (h : 10 ≤ u) : chN u = (u % 10 + 48) :: chN (u / 10) := by simp [chN, digN_big u h]
theorem chN_len : ∀ (d u : Nat), u < 10 ^ (d + 1) → (chN u).length ≤ d + 1 := by
  intro d
  induction d with
  | zero => intro u h; rw [chN_small u (by simpa using h)]; simp
  | succ d ih =>
    intro u h
    by_cases h10 : u < 10
    · rw [chN_small u h10]; simp
    · rw [chN_big u (by omega), List.length_cons]
      have := ih (u / 10) (by rw [Nat.pow_succ] at h; omega)
      omega
def numN (n : Int) : List Nat := (chN n.natAbs ++ if n < 0 then [45] else []).reverse
/-- A number's text. -/
def numS (n : Int) : ByteArray := strN (numN n)
theorem rev_step (p s : List Int) (a b : Int) (m : List Int) : ((p ++ (a :: m ++ [b]) ++ s).set p.length b).set (p.length + m.length + 1) a = p ++ ([b] ++ m ++ [a]) ++ s := by
  rw [show p ++ (a :: m ++ [b]) ++ s = p ++ (a :: (m ++ (b :: s))) by simp, List.set_append_right _ _ (Nat.le_refl _), Nat.sub_self, List.set_cons_zero,
    List.set_append_right _ _ (by omega), show p.length + m.length + 1 - p.length = m.length + 1 by omega, List.set_cons_succ, List.set_append_right _ _ (Nat.le_refl _), Nat.sub_self, List.set_cons_zero]
  simp
theorem rev_loop : ∀ (d k : Nat) (p m s : List Int), m.length ≤ d → d < k → (p ++ m ++ s).length ≤ 100000 → slices_Reverse_byte_byte.l0 k (p ++ m ++ s) (p.length : Int) ((p.length : Int) + m.length - 1) = some (p ++ m.reverse ++ s) := by
  intro d
  induction d using Nat.strongRecOn with
  | _ d ih =>
    intro k p m s hm hk hl
    obtain ⟨k, rfl⟩ : ∃ n, k = n + 1 := ⟨k - 1, by omega⟩
    simp only [slices_Reverse_byte_byte.l0]
    by_cases h2 : m.length < 2
    · rw [if_neg (by omega)]
      match m, h2 with
      | [], _ => rfl
      | [x], _ => rfl
    · obtain ⟨a, m', b, rfl⟩ : ∃ a m' b, m = a :: m' ++ [b] := by
        match m, h2 with
        | [], h => simp at h
        | [x], h => simp at h
        | a :: b :: m'', _ => exact ⟨a, (b :: m'').dropLast, (b :: m'').getLast (by simp), by rw [List.cons_append, List.dropLast_concat_getLast]⟩
      simp only [List.length_append, List.length_cons, List.length_nil] at hm hl h2 ⊢
      rw [if_pos (by omega), if_pos (by omega), if_pos (by omega), if_pos (by omega), if_pos (by omega)]
      have e1 : rd (p ++ (a :: m' ++ [b]) ++ s) (p.length : Int) = a := by simp [rd]
      have e2 : rd (p ++ (a :: m' ++ [b]) ++ s) ((p.length : Int) + ((m'.length + 1 + (0 + 1) : Nat) : Int) - 1) = b := by
        rw [show (p.length : Int) + ((m'.length + 1 + (0 + 1) : Nat) : Int) - 1 = ((p.length + (m'.length + 1) : Nat) : Int) by omega]
        unfold rd
        rw [Int.toNat_natCast, show p ++ (a :: m' ++ [b]) ++ s = (p ++ a :: m') ++ (b :: s) by simp, List.getD_eq_getElem?_getD, List.getElem?_append_right (by simp)]
        simp
      rw [e1, e2, Int.toNat_natCast, show ((p.length : Int) + ((m'.length + 1 + (0 + 1) : Nat) : Int) - 1).toNat = p.length + m'.length + 1 by omega, rev_step,
        show wrap64 ((p.length : Int) + 1) = (((p ++ [b]).length : Nat) : Int) by unfold wrap64; simp; omega,
        show wrap64 ((p.length : Int) + ((m'.length + 1 + (0 + 1) : Nat) : Int) - 1 - 1) = (((p ++ [b]).length : Nat) : Int) + (m'.length : Int) - 1 by unfold wrap64; simp; omega,
        show p ++ ([b] ++ m' ++ [a]) ++ s = (p ++ [b]) ++ m' ++ ([a] ++ s) by simp]
      rw [ih m'.length (by omega) k (p ++ [b]) m' ([a] ++ s) (Nat.le_refl _) (by omega) (by simp; omega)]
      simp
theorem rev_f (k : Nat) (l : List Int) (hl : l.length ≤ 100000) (hk : l.length < k) : slices_Reverse_byte_byte.f k l = some l.reverse := by
  unfold slices_Reverse_byte_byte.f
  have := rev_loop l.length k [] l [] (Nat.le_refl _) hk (by simpa using hl)
  simp only [List.nil_append, List.append_nil, List.length_nil] at this
  rw [show wrap64 ((l.length : Int) - 1) = ((0 : Nat) : Int) + (l.length : Int) - 1 by unfold wrap64; omega]
  exact this
end Go.Proofs.YtlnbghhhifnbdaaDoor
