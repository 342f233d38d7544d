/- Proved: which pattern of the document a word has, and which kind package decode tells of it: the same one. Conditions: a word is a word. -/
import Derived.Test.YtnooikjkjcflbadDoorDb
namespace Go.Proofs.YtnooikjkjcflbadDoor
open Go.RowKit
set_option linter.unusedVariables false
set_option linter.unusedSimpArgs false

theorem du32w (n : Int) (h : 0 ≤ n) (h' : n < 2 ^ 32) : IntKind.u32.wrap n = n := IntWalk.u32_in n ⟨h, by omega⟩
theorem dand_nat (a b : Nat) (ha : a < 4294967296) (hb : b < 4294967296) : bits .and .u32 (a : Int) (b : Int) = ((a &&& b : Nat) : Int) := (bits_nat .u32 32 (by decide) du32w a b ha hb).1
theorem dor_nat (a b : Nat) (ha : a < 4294967296) (hb : b < 4294967296) : bits .or .u32 (a : Int) (b : Int) = ((a ||| b : Nat) : Int) := (bits_nat .u32 32 (by decide) du32w a b ha hb).2
theorem and_split (w M n : Nat) : w &&& M = (w / 2 ^ n &&& M / 2 ^ n) * 2 ^ n + (w % 2 ^ n &&& M % 2 ^ n) := by
  rw [← Nat.and_div_two_pow, ← Nat.and_mod_two_pow, Nat.mul_comm]
  exact (Nat.div_add_mod _ _).symm
theorem and127 (w : Int) (h : 0 ≤ w ∧ w ≤ 4294967295) : bits .and .u32 w 127 = w % 128 := bits_mask .u32 32 (by decide) du32w 7 (by decide) w h.1 (by omega)
theorem nat28799 (w : Nat) : w &&& 28799 = w / 4096 % 8 * 4096 + w % 128 := by
  rw [and_split w 28799 12, show 28799 / 2 ^ 12 = 2 ^ 3 - 1 from rfl, show 28799 % 2 ^ 12 = 2 ^ 7 - 1 from rfl, Nat.and_two_pow_sub_one_eq_mod, Nat.and_two_pow_sub_one_eq_mod]
  simp only [Nat.reducePow]
  omega
theorem and28799 (w : Int) (h : 0 ≤ w ∧ w ≤ 4294967295) : bits .and .u32 w 28799 = w / 4096 % 8 * 4096 + w % 128 := by
  obtain ⟨a, rfl⟩ := Int.eq_ofNat_of_zero_le h.1
  have := dand_nat a 28799 (by omega) (by decide)
  rw [nat28799] at this
  refine this.trans ?_
  omega
theorem and_wide (w : Int) (h : 0 ≤ w ∧ w ≤ 4294967295) : bits .and .u32 w 4261441663 = w / 33554432 * 33554432 + (w / 4096 % 8 * 4096 + w % 128) := by
  obtain ⟨a, rfl⟩ := Int.eq_ofNat_of_zero_le h.1
  have := dand_nat a 4261441663 (by omega) (by decide)
  rw [and_split a 4261441663 25, show 4261441663 / 2 ^ 25 = 2 ^ 7 - 1 from rfl, show 4261441663 % 2 ^ 25 = 28799 from rfl, Nat.and_two_pow_sub_one_eq_mod, nat28799] at this
  refine this.trans ?_
  simp only [Nat.reducePow]
  omega
theorem and_all (w : Int) (h : 0 ≤ w ∧ w ≤ 4294967295) : bits .and .u32 w 4294967295 = w := by
  obtain ⟨a, rfl⟩ := Int.eq_ofNat_of_zero_le h.1
  have := dand_nat a 4294967295 (by omega) (by decide)
  rw [show (4294967295 : Nat) = 2 ^ 32 - 1 from rfl, Nat.and_two_pow_sub_one_eq_mod] at this
  refine Eq.trans ?_ (this.trans ?_)
  · rfl
  · omega
def patsL : List (Int × Int) := [(127, 55), (127, 23), (127, 111), (28799, 103), (28799, 99), (28799, 4195), (28799, 16483), (28799, 20579), (28799, 24675), (28799, 28771), (28799, 3), (28799, 4099), (28799, 8195), (28799, 16387), (28799, 20483), (28799, 35), (28799, 4131), (28799, 8227), (28799, 19), (28799, 8211), (28799, 12307), (28799, 16403), (28799, 24595), (28799, 28691), (4261441663, 4115), (4261441663, 20499), (4261441663, 1073762323), (4261441663, 51), (4261441663, 1073741875), (4261441663, 4147), (4261441663, 8243), (4261441663, 12339), (4261441663, 16435), (4261441663, 20531), (4261441663, 1073762355), (4261441663, 24627), (4261441663, 28723), (28799, 15), (28799, 4111), (4294967295, 115), (4294967295, 1048691), (28799, 4211), (28799, 8307), (28799, 12403), (28799, 20595), (28799, 24691), (28799, 28787), (4294967295, 807403635), (4294967295, 273678451), (4261441663, 33554483), (4261441663, 33558579), (4261441663, 33562675), (4261441663, 33566771), (4261441663, 33570867), (4261441663, 33574963), (4261441663, 33579059), (4261441663, 33583155)]
def patM (i : Nat) : Int := (patsL.getD i (0, 0)).1
def patX (i : Nat) : Int := (patsL.getD i (0, 0)).2
def matchB (w : Int) (i : Nat) : Bool := bits .and .u32 w (patM i) == patX i
def kB (g : Int) : Int := if g = 0 then 5 else if g = 1 then 6 else if g = 4 then 7 else if g = 5 then 8 else if g = 6 then 9 else if g = 7 then 10 else 0
def kL (g : Int) : Int := if g = 0 then 11 else if g = 1 then 12 else if g = 2 then 13 else if g = 4 then 14 else if g = 5 then 15 else 0
def kS (g : Int) : Int := if g = 0 then 16 else if g = 1 then 17 else if g = 2 then 18 else 0
def kI (g t : Int) : Int := if g = 0 then 19 else if g = 2 then 20 else if g = 3 then 21 else if g = 4 then 22 else if g = 6 then 23 else if g = 7 then 24 else if g = 1 then (if t = 0 then 25 else 0) else if t = 0 then 26 else if t = 32 then 27 else 0
def kR (g t : Int) : Int := if t = 0 then (if g = 0 then 28 else if g = 1 then 30 else if g = 2 then 31 else if g = 3 then 32 else if g = 4 then 33 else if g = 5 then 34 else if g = 6 then 36 else 37) else if t = 1 then 50 + g else if t = 32 then (if g = 0 then 29 else if g = 5 then 35 else 0) else 0
def kF (g : Int) : Int := if g = 0 then 38 else if g = 1 then 39 else 0
def kY (g w : Int) : Int := if g = 1 then 42 else if g = 2 then 43 else if g = 3 then 44 else if g = 5 then 45 else if g = 6 then 46 else if g = 7 then 47 else if w = 115 then 40 else if w = 1048691 then 41 else if w = 807403635 then 48 else if w = 273678451 then 49 else 0
/-- A word's kind, by its operation code (o), its two function codes (g, t). -/
def kindOf (o g t w : Int) : Int :=
  if o = 55 then 1 else if o = 23 then 2 else if o = 111 then 3 else if o = 103 then (if g = 0 then 4 else 0) else if o = 99 then kB g else if o = 3 then kL g else if o = 35 then kS g else if o = 19 then kI g t else if o = 51 then kR g t
  else if o = 15 then kF g else if o = 115 then kY g w else 0
def kindV (w : Int) : Int := kindOf (w % 128) (w / 4096 % 8) (w / 33554432) w
def patC (o g t w : Int) : Nat → Prop
  | 0 => o = 55
  | 1 => o = 23
  | 2 => o = 111
  | 3 => o = 103 ∧ g = 0
  | 4 => o = 99 ∧ g = 0
  | 5 => o = 99 ∧ g = 1
  | 6 => o = 99 ∧ g = 4
  | 7 => o = 99 ∧ g = 5
  | 8 => o = 99 ∧ g = 6
  | 9 => o = 99 ∧ g = 7
  | 10 => o = 3 ∧ g = 0
  | 11 => o = 3 ∧ g = 1
  | 12 => o = 3 ∧ g = 2
  | 13 => o = 3 ∧ g = 4
  | 14 => o = 3 ∧ g = 5
  | 15 => o = 35 ∧ g = 0
  | 16 => o = 35 ∧ g = 1
  | 17 => o = 35 ∧ g = 2
  | 18 => o = 19 ∧ g = 0
  | 19 => o = 19 ∧ g = 2
  | 20 => o = 19 ∧ g = 3
  | 21 => o = 19 ∧ g = 4
  | 22 => o = 19 ∧ g = 6
  | 23 => o = 19 ∧ g = 7
  | 24 => o = 19 ∧ g = 1 ∧ t = 0
  | 25 => o = 19 ∧ g = 5 ∧ t = 0
  | 26 => o = 19 ∧ g = 5 ∧ t = 32
  | 27 => o = 51 ∧ g = 0 ∧ t = 0
  | 28 => o = 51 ∧ g = 0 ∧ t = 32
  | 29 => o = 51 ∧ g = 1 ∧ t = 0
  | 30 => o = 51 ∧ g = 2 ∧ t = 0
  | 31 => o = 51 ∧ g = 3 ∧ t = 0
  | 32 => o = 51 ∧ g = 4 ∧ t = 0
  | 33 => o = 51 ∧ g = 5 ∧ t = 0
  | 34 => o = 51 ∧ g = 5 ∧ t = 32
  | 35 => o = 51 ∧ g = 6 ∧ t = 0
  | 36 => o = 51 ∧ g = 7 ∧ t = 0
  | 37 => o = 15 ∧ g = 0
  | 38 => o = 15 ∧ g = 1
  | 39 => w = 115
  | 40 => w = 1048691
  | 41 => o = 115 ∧ g = 1
  | 42 => o = 115 ∧ g = 2
  | 43 => o = 115 ∧ g = 3
  | 44 => o = 115 ∧ g = 5
  | 45 => o = 115 ∧ g = 6
  | 46 => o = 115 ∧ g = 7
  | 47 => w = 807403635
  | 48 => w = 273678451
  | 49 => o = 51 ∧ g = 0 ∧ t = 1
  | 50 => o = 51 ∧ g = 1 ∧ t = 1
  | 51 => o = 51 ∧ g = 2 ∧ t = 1
  | 52 => o = 51 ∧ g = 3 ∧ t = 1
  | 53 => o = 51 ∧ g = 4 ∧ t = 1
  | 54 => o = 51 ∧ g = 5 ∧ t = 1
  | 55 => o = 51 ∧ g = 6 ∧ t = 1
  | 56 => o = 51 ∧ g = 7 ∧ t = 1
  | _ => False
theorem match_c (w : Int) (h : 0 ≤ w ∧ w ≤ 4294967295) (i : Nat) (hi : i < 57) : matchB w i = true ↔ patC (w % 128) (w / 4096 % 8) (w / 33554432) w i := by
  have e1 := and127 w h
  have e2 := and28799 w h
  have e3 := and_wide w h
  have e4 := and_all w h
  rcases (by omega : i = 0 ∨ i = 1 ∨ i = 2 ∨ i = 3 ∨ i = 4 ∨ i = 5 ∨ i = 6 ∨ i = 7 ∨ i = 8 ∨ i = 9 ∨ i = 10 ∨ i = 11 ∨ i = 12 ∨ i = 13 ∨ i = 14 ∨ i = 15 ∨ i = 16 ∨ i = 17 ∨ i = 18 ∨ i = 19 ∨ i = 20 ∨ i = 21 ∨ i = 22 ∨ i = 23 ∨ i = 24 ∨ i = 25 ∨ i = 26 ∨ i = 27 ∨ i = 28 ∨ i = 29 ∨ i = 30 ∨ i = 31 ∨ i = 32 ∨ i = 33 ∨ i = 34 ∨ i = 35 ∨ i = 36 ∨ i = 37 ∨ i = 38 ∨ i = 39 ∨ i = 40 ∨ i = 41 ∨ i = 42 ∨ i = 43 ∨ i = 44 ∨ i = 45 ∨ i = 46 ∨ i = 47 ∨ i = 48 ∨ i = 49 ∨ i = 50 ∨ i = 51 ∨ i = 52 ∨ i = 53 ∨ i = 54 ∨ i = 55 ∨ i = 56) with rfl | rfl | rfl | rfl | rfl | rfl | rfl | rfl | rfl | rfl | rfl | rfl | rfl | rfl | rfl | rfl | rfl | rfl | rfl | rfl | rfl | rfl | rfl | rfl | rfl | rfl | rfl | rfl | rfl | rfl | rfl | rfl | rfl | rfl | rfl | rfl | rfl | rfl | rfl | rfl | rfl | rfl | rfl | rfl | rfl | rfl | rfl | rfl | rfl | rfl | rfl | rfl | rfl | rfl | rfl | rfl | rfl
  all_goals
    simp only [matchB, patM, patX, patsL, List.getD_cons_zero, List.getD_cons_succ, beq_iff_eq, e1, e2, e3, e4, patC]
    try (clear e1 e2 e3 e4; omega)
set_option maxHeartbeats 64000000 in
theorem kind_c (o g t w : Int) (hg : 0 ≤ g ∧ g ≤ 7) (hw : w = 115 ∨ w = 1048691 ∨ w = 807403635 ∨ w = 273678451 → o = 115 ∧ g = 0) (i : Nat) (hi : i < 57) : patC o g t w i ↔ kindOf o g t w = i + 1 := by
  have hv : ∀ k : Nat, k < 57 → patC o g t w k → kindOf o g t w = k + 1 := by
    intro k hk
    rcases (by omega : k = 0 ∨ k = 1 ∨ k = 2 ∨ k = 3 ∨ k = 4 ∨ k = 5 ∨ k = 6 ∨ k = 7 ∨ k = 8 ∨ k = 9 ∨ k = 10 ∨ k = 11 ∨ k = 12 ∨ k = 13 ∨ k = 14 ∨ k = 15 ∨ k = 16 ∨ k = 17 ∨ k = 18 ∨ k = 19 ∨ k = 20 ∨ k = 21 ∨ k = 22 ∨ k = 23 ∨ k = 24 ∨ k = 25 ∨ k = 26 ∨ k = 27 ∨ k = 28 ∨ k = 29 ∨ k = 30 ∨ k = 31 ∨ k = 32 ∨ k = 33 ∨ k = 34 ∨ k = 35 ∨ k = 36 ∨ k = 37 ∨ k = 38 ∨ k = 39 ∨ k = 40 ∨ k = 41 ∨ k = 42 ∨ k = 43 ∨ k = 44 ∨ k = 45 ∨ k = 46 ∨ k = 47 ∨ k = 48 ∨ k = 49 ∨ k = 50 ∨ k = 51 ∨ k = 52 ∨ k = 53 ∨ k = 54 ∨ k = 55 ∨ k = 56) with rfl | rfl | rfl | rfl | rfl | rfl | rfl | rfl | rfl | rfl | rfl | rfl | rfl | rfl | rfl | rfl | rfl | rfl | rfl | rfl | rfl | rfl | rfl | rfl | rfl | rfl | rfl | rfl | rfl | rfl | rfl | rfl | rfl | rfl | rfl | rfl | rfl | rfl | rfl | rfl | rfl | rfl | rfl | rfl | rfl | rfl | rfl | rfl | rfl | rfl | rfl | rfl | rfl | rfl | rfl | rfl | rfl
    all_goals
      simp only [patC]
      intro hc
    all_goals
      try (obtain ⟨rfl, rfl, rfl⟩ := hc; simp [kindOf, kR, kI]; done)
    all_goals
      try (obtain ⟨rfl, rfl⟩ := hc; simp [kindOf, kB, kL, kS, kI, kF, kY]; done)
    all_goals
      first
        | (subst hc; simp [kindOf]; done)
        | (obtain ⟨rfl, rfl⟩ := hw (by omega); subst hc; simp [kindOf, kY])
  refine ⟨hv i hi, fun h => ?_⟩
  clear hv
  have ho : ∀ k : Nat, k < 57 → kindOf o g t w = k + 1 → patC o g t w k := by
    clear h hi i
    intro k hk h
    have leaf : ∀ v : Int, v = k + 1 → k = Int.toNat (v - 1) := by intro v hv; omega
    unfold kindOf at h
    clear hk hw
    by_cases c55 : o = 55
    · subst c55
      rw [if_pos rfl] at h
      rcases (by omega : g = 0 ∨ g = 1 ∨ g = 2 ∨ g = 3 ∨ g = 4 ∨ g = 5 ∨ g = 6 ∨ g = 7) with rfl | rfl | rfl | rfl | rfl | rfl | rfl | rfl
      all_goals
        try simp only [kB, kL, kS, kF, Int.reduceEq, eq_self, if_true, if_false, ↓reduceIte] at h
        try clear hg
        first
          | omega
          | (have hk2 := leaf _ h; simp only [Int.reduceSub, Int.reduceAdd, Int.reduceToNat] at hk2; subst hk2; first | exact ⟨rfl, rfl⟩ | exact ⟨rfl, rfl, rfl⟩ | rfl | (simp only [patC] <;> omega))
    by_cases c23 : o = 23
    · subst c23
      rw [if_neg (by decide), if_pos rfl] at h
      rcases (by omega : g = 0 ∨ g = 1 ∨ g = 2 ∨ g = 3 ∨ g = 4 ∨ g = 5 ∨ g = 6 ∨ g = 7) with rfl | rfl | rfl | rfl | rfl | rfl | rfl | rfl
      all_goals
        try simp only [kB, kL, kS, kF, Int.reduceEq, eq_self, if_true, if_false, ↓reduceIte] at h
        try clear hg
        first
          | omega
          | (have hk2 := leaf _ h; simp only [Int.reduceSub, Int.reduceAdd, Int.reduceToNat] at hk2; subst hk2; first | exact ⟨rfl, rfl⟩ | exact ⟨rfl, rfl, rfl⟩ | rfl | (simp only [patC] <;> omega))
    by_cases c111 : o = 111
    · subst c111
      rw [if_neg (by decide), if_neg (by decide), if_pos rfl] at h
      rcases (by omega : g = 0 ∨ g = 1 ∨ g = 2 ∨ g = 3 ∨ g = 4 ∨ g = 5 ∨ g = 6 ∨ g = 7) with rfl | rfl | rfl | rfl | rfl | rfl | rfl | rfl
      all_goals
        try simp only [kB, kL, kS, kF, Int.reduceEq, eq_self, if_true, if_false, ↓reduceIte] at h
        try clear hg
        first
          | omega
          | (have hk2 := leaf _ h; simp only [Int.reduceSub, Int.reduceAdd, Int.reduceToNat] at hk2; subst hk2; first | exact ⟨rfl, rfl⟩ | exact ⟨rfl, rfl, rfl⟩ | rfl | (simp only [patC] <;> omega))
    by_cases c103 : o = 103
    · subst c103
      rw [if_neg (by decide), if_neg (by decide), if_neg (by decide), if_pos rfl] at h
      rcases (by omega : g = 0 ∨ g = 1 ∨ g = 2 ∨ g = 3 ∨ g = 4 ∨ g = 5 ∨ g = 6 ∨ g = 7) with rfl | rfl | rfl | rfl | rfl | rfl | rfl | rfl
      all_goals
        try simp only [kB, kL, kS, kF, Int.reduceEq, eq_self, if_true, if_false, ↓reduceIte] at h
        try clear hg
        first
          | omega
          | (have hk2 := leaf _ h; simp only [Int.reduceSub, Int.reduceAdd, Int.reduceToNat] at hk2; subst hk2; first | exact ⟨rfl, rfl⟩ | exact ⟨rfl, rfl, rfl⟩ | rfl | (simp only [patC] <;> omega))
    by_cases c99 : o = 99
    · subst c99
      rw [if_neg (by decide), if_neg (by decide), if_neg (by decide), if_neg (by decide), if_pos rfl] at h
      rcases (by omega : g = 0 ∨ g = 1 ∨ g = 2 ∨ g = 3 ∨ g = 4 ∨ g = 5 ∨ g = 6 ∨ g = 7) with rfl | rfl | rfl | rfl | rfl | rfl | rfl | rfl
      all_goals
        try simp only [kB, kL, kS, kF, Int.reduceEq, eq_self, if_true, if_false, ↓reduceIte] at h
        try clear hg
        first
          | omega
          | (have hk2 := leaf _ h; simp only [Int.reduceSub, Int.reduceAdd, Int.reduceToNat] at hk2; subst hk2; first | exact ⟨rfl, rfl⟩ | exact ⟨rfl, rfl, rfl⟩ | rfl | (simp only [patC] <;> omega))
    by_cases c3 : o = 3
    · subst c3
      rw [if_neg (by decide), if_neg (by decide), if_neg (by decide), if_neg (by decide), if_neg (by decide), if_pos rfl] at h
      rcases (by omega : g = 0 ∨ g = 1 ∨ g = 2 ∨ g = 3 ∨ g = 4 ∨ g = 5 ∨ g = 6 ∨ g = 7) with rfl | rfl | rfl | rfl | rfl | rfl | rfl | rfl
      all_goals
        try simp only [kB, kL, kS, kF, Int.reduceEq, eq_self, if_true, if_false, ↓reduceIte] at h
        try clear hg
        first
          | omega
          | (have hk2 := leaf _ h; simp only [Int.reduceSub, Int.reduceAdd, Int.reduceToNat] at hk2; subst hk2; first | exact ⟨rfl, rfl⟩ | exact ⟨rfl, rfl, rfl⟩ | rfl | (simp only [patC] <;> omega))
    by_cases c35 : o = 35
    · subst c35
      rw [if_neg (by decide), if_neg (by decide), if_neg (by decide), if_neg (by decide), if_neg (by decide), if_neg (by decide), if_pos rfl] at h
      rcases (by omega : g = 0 ∨ g = 1 ∨ g = 2 ∨ g = 3 ∨ g = 4 ∨ g = 5 ∨ g = 6 ∨ g = 7) with rfl | rfl | rfl | rfl | rfl | rfl | rfl | rfl
      all_goals
        try simp only [kB, kL, kS, kF, Int.reduceEq, eq_self, if_true, if_false, ↓reduceIte] at h
        try clear hg
        first
          | omega
          | (have hk2 := leaf _ h; simp only [Int.reduceSub, Int.reduceAdd, Int.reduceToNat] at hk2; subst hk2; first | exact ⟨rfl, rfl⟩ | exact ⟨rfl, rfl, rfl⟩ | rfl | (simp only [patC] <;> omega))
    by_cases c19 : o = 19
    · subst c19
      rw [if_neg (by decide), if_neg (by decide), if_neg (by decide), if_neg (by decide), if_neg (by decide), if_neg (by decide), if_neg (by decide), if_pos rfl] at h
      rcases (by omega : g = 0 ∨ g = 1 ∨ g = 2 ∨ g = 3 ∨ g = 4 ∨ g = 5 ∨ g = 6 ∨ g = 7) with rfl | rfl | rfl | rfl | rfl | rfl | rfl | rfl
      all_goals
        try simp only [kB, kL, kS, kF, Int.reduceEq, eq_self, if_true, if_false, ↓reduceIte] at h
        try clear hg
        first
          | omega
          | (unfold kI at h
             by_cases t0 : t = 0
             · subst t0; simp only [Int.reduceEq, eq_self, if_true, if_false, ↓reduceIte] at h; have hk2 := leaf _ h; simp only [Int.reduceSub, Int.reduceAdd, Int.reduceToNat] at hk2; subst hk2; first | exact ⟨rfl, rfl⟩ | exact ⟨rfl, rfl, rfl⟩ | rfl | (simp only [patC] <;> omega)
             · by_cases t1 : t = 32
               · subst t1; simp only [Int.reduceEq, eq_self, if_true, if_false, ↓reduceIte] at h; first | omega | (have hk2 := leaf _ h; simp only [Int.reduceSub, Int.reduceAdd, Int.reduceToNat] at hk2; subst hk2; first | exact ⟨rfl, rfl⟩ | exact ⟨rfl, rfl, rfl⟩ | rfl | (simp only [patC] <;> omega))
               · simp only [Int.reduceEq, eq_self, if_true, if_false, ↓reduceIte, t0, t1] at h; first | omega | (have hk2 := leaf _ h; simp only [Int.reduceSub, Int.reduceAdd, Int.reduceToNat] at hk2; subst hk2; first | exact ⟨rfl, rfl⟩ | exact ⟨rfl, rfl, rfl⟩ | rfl | (simp only [patC] <;> omega)))
          | (have hk2 := leaf _ h; simp only [Int.reduceSub, Int.reduceAdd, Int.reduceToNat] at hk2; subst hk2; first | exact ⟨rfl, rfl⟩ | exact ⟨rfl, rfl, rfl⟩ | rfl | (simp only [patC] <;> omega))
    by_cases c51 : o = 51
    · subst c51
      rw [if_neg (by decide), if_neg (by decide), if_neg (by decide), if_neg (by decide), if_neg (by decide), if_neg (by decide), if_neg (by decide), if_neg (by decide), if_pos rfl] at h
      rcases (by omega : g = 0 ∨ g = 1 ∨ g = 2 ∨ g = 3 ∨ g = 4 ∨ g = 5 ∨ g = 6 ∨ g = 7) with rfl | rfl | rfl | rfl | rfl | rfl | rfl | rfl
      all_goals
        try simp only [kB, kL, kS, kF, Int.reduceEq, eq_self, if_true, if_false, ↓reduceIte] at h
        try clear hg
        first
          | omega
          | (unfold kR at h
             by_cases t0 : t = 0
             · subst t0; simp only [Int.reduceEq, Int.reduceAdd, eq_self, if_true, if_false, ↓reduceIte] at h; have hk2 := leaf _ h; simp only [Int.reduceSub, Int.reduceAdd, Int.reduceToNat] at hk2; subst hk2; first | exact ⟨rfl, rfl⟩ | exact ⟨rfl, rfl, rfl⟩ | rfl | (simp only [patC] <;> omega)
             · by_cases t1 : t = 1
               · subst t1; simp only [Int.reduceEq, Int.reduceAdd, eq_self, if_true, if_false, ↓reduceIte] at h; have hk2 := leaf _ h; simp only [Int.reduceSub, Int.reduceAdd, Int.reduceToNat] at hk2; subst hk2; first | exact ⟨rfl, rfl⟩ | exact ⟨rfl, rfl, rfl⟩ | rfl | (simp only [patC] <;> omega)
               · by_cases t2 : t = 32
                 · subst t2; simp only [Int.reduceEq, Int.reduceAdd, eq_self, if_true, if_false, ↓reduceIte] at h; first | omega | (have hk2 := leaf _ h; simp only [Int.reduceSub, Int.reduceAdd, Int.reduceToNat] at hk2; subst hk2; first | exact ⟨rfl, rfl⟩ | exact ⟨rfl, rfl, rfl⟩ | rfl | (simp only [patC] <;> omega))
                 · simp only [t0, t1, t2, ↓reduceIte] at h; omega)
          | (have hk2 := leaf _ h; simp only [Int.reduceSub, Int.reduceAdd, Int.reduceToNat] at hk2; subst hk2; first | exact ⟨rfl, rfl⟩ | exact ⟨rfl, rfl, rfl⟩ | rfl | (simp only [patC] <;> omega))
    by_cases c15 : o = 15
    · subst c15
      rw [if_neg (by decide), if_neg (by decide), if_neg (by decide), if_neg (by decide), if_neg (by decide), if_neg (by decide), if_neg (by decide), if_neg (by decide), if_neg (by decide), if_pos rfl] at h
      rcases (by omega : g = 0 ∨ g = 1 ∨ g = 2 ∨ g = 3 ∨ g = 4 ∨ g = 5 ∨ g = 6 ∨ g = 7) with rfl | rfl | rfl | rfl | rfl | rfl | rfl | rfl
      all_goals
        try simp only [kB, kL, kS, kF, Int.reduceEq, eq_self, if_true, if_false, ↓reduceIte] at h
        try clear hg
        first
          | omega
          | (have hk2 := leaf _ h; simp only [Int.reduceSub, Int.reduceAdd, Int.reduceToNat] at hk2; subst hk2; first | exact ⟨rfl, rfl⟩ | exact ⟨rfl, rfl, rfl⟩ | rfl | (simp only [patC] <;> omega))
    by_cases c115 : o = 115
    · subst c115
      rw [if_neg (by decide), if_neg (by decide), if_neg (by decide), if_neg (by decide), if_neg (by decide), if_neg (by decide), if_neg (by decide), if_neg (by decide), if_neg (by decide), if_neg (by decide), if_pos rfl] at h
      rcases (by omega : g = 0 ∨ g = 1 ∨ g = 2 ∨ g = 3 ∨ g = 4 ∨ g = 5 ∨ g = 6 ∨ g = 7) with rfl | rfl | rfl | rfl | rfl | rfl | rfl | rfl
      all_goals
        try simp only [kB, kL, kS, kF, Int.reduceEq, eq_self, if_true, if_false, ↓reduceIte] at h
        try clear hg
        first
          | omega
          | (unfold kY at h
             simp only [Int.reduceEq, eq_self, if_true, if_false, ↓reduceIte] at h
             first
               | (have hk2 := leaf _ h; simp only [Int.reduceSub, Int.reduceAdd, Int.reduceToNat] at hk2; subst hk2; first | exact ⟨rfl, rfl⟩ | exact ⟨rfl, rfl, rfl⟩ | rfl | (simp only [patC] <;> omega))
               | (by_cases w0 : w = 115
                  · subst w0; simp only [Int.reduceEq, eq_self, if_true, if_false, ↓reduceIte] at h; have hk2 := leaf _ h; simp only [Int.reduceSub, Int.reduceAdd, Int.reduceToNat] at hk2; subst hk2; simp only [patC]
                  · by_cases w1 : w = 1048691
                    · subst w1; simp only [Int.reduceEq, eq_self, if_true, if_false, ↓reduceIte] at h; have hk2 := leaf _ h; simp only [Int.reduceSub, Int.reduceAdd, Int.reduceToNat] at hk2; subst hk2; simp only [patC]
                    · by_cases w2 : w = 807403635
                      · subst w2; simp only [Int.reduceEq, eq_self, if_true, if_false, ↓reduceIte] at h; have hk2 := leaf _ h; simp only [Int.reduceSub, Int.reduceAdd, Int.reduceToNat] at hk2; subst hk2; simp only [patC]
                      · by_cases w3 : w = 273678451
                        · subst w3; simp only [Int.reduceEq, eq_self, if_true, if_false, ↓reduceIte] at h; have hk2 := leaf _ h; simp only [Int.reduceSub, Int.reduceAdd, Int.reduceToNat] at hk2; subst hk2; simp only [patC]
                        · simp only [w0, w1, w2, w3, ↓reduceIte] at h; omega))
          | (have hk2 := leaf _ h; simp only [Int.reduceSub, Int.reduceAdd, Int.reduceToNat] at hk2; subst hk2; first | exact ⟨rfl, rfl⟩ | exact ⟨rfl, rfl, rfl⟩ | rfl | (simp only [patC] <;> omega))
    rw [if_neg c55, if_neg c23, if_neg c111, if_neg c103, if_neg c99, if_neg c3, if_neg c35, if_neg c19, if_neg c51, if_neg c15, if_neg c115] at h
    omega
  exact ho i hi h
theorem spec_w (w : Int) : w = 115 ∨ w = 1048691 ∨ w = 807403635 ∨ w = 273678451 → w % 128 = 115 ∧ w / 4096 % 8 = 0 := by
  rintro (rfl | rfl | rfl | rfl) <;> decide
theorem match_iff (w : Int) (h : 0 ≤ w ∧ w ≤ 4294967295) (i : Nat) (hi : i < 57) : matchB w i = true ↔ kindV w = i + 1 :=
  (match_c w h i hi).trans (kind_c _ _ _ w (by omega) (spec_w w) i hi)
theorem kB_rng (g : Int) : 0 ≤ kB g ∧ kB g ≤ 57 := by unfold kB; repeat' split <;> omega
theorem kL_rng (g : Int) : 0 ≤ kL g ∧ kL g ≤ 57 := by unfold kL; repeat' split <;> omega
theorem kS_rng (g : Int) : 0 ≤ kS g ∧ kS g ≤ 57 := by unfold kS; repeat' split <;> omega
theorem kI_rng (g t : Int) : 0 ≤ kI g t ∧ kI g t ≤ 57 := by unfold kI; repeat' split <;> omega
theorem kR_rng (g t : Int) (hg : 0 ≤ g ∧ g ≤ 7) : 0 ≤ kR g t ∧ kR g t ≤ 57 := by unfold kR; repeat' split <;> omega
theorem kF_rng (g : Int) : 0 ≤ kF g ∧ kF g ≤ 57 := by unfold kF; repeat' split <;> omega
set_option maxHeartbeats 1000000 in
theorem kY_rng (g w : Int) : 0 ≤ kY g w ∧ kY g w ≤ 57 := by unfold kY; repeat' split <;> omega
theorem kind_rng (w : Int) : 0 ≤ kindV w ∧ kindV w ≤ 57 := by
  have hg : 0 ≤ w / 4096 % 8 ∧ w / 4096 % 8 ≤ 7 := by omega
  unfold kindV
  generalize w / 4096 % 8 = g at *
  generalize w / 33554432 = t
  generalize w % 128 = o
  have b1 := kB_rng g
  have b2 := kL_rng g
  have b3 := kS_rng g
  have b4 := kI_rng g t
  have b5 := kR_rng g t hg
  have b6 := kF_rng g
  have b7 := kY_rng g w
  unfold kindOf
  repeat' split
  all_goals omega
theorem kind_zero (w : Int) (h : 0 ≤ w ∧ w ≤ 4294967295) (hn : ∀ i, i < 57 → matchB w i = false) : kindV w = 0 := by
  have hr := kind_rng w
  by_cases hz : kindV w = 0
  · exact hz
  · exfalso
    have := (match_iff w h (kindV w - 1).toNat (by omega)).mpr (by omega)
    rw [hn _ (by omega)] at this
    cases this
end Go.Proofs.YtnooikjkjcflbadDoor
