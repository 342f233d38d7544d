/- The walk of the law InstUses: it returns true. Conditions: words are words; the listed variables hold what the program's text lays in them. -/
import Derived.Test.YtnooikjkjcflbabDoorIu
namespace Go.Proofs.YtnooikjkjcflbabDoor
open Go.RowKit
set_option linter.unusedVariables false
set_option linter.unusedSimpArgs false

def nV (L : List Int) (k : Int) : Nat := (L.filter (fun x => decide (x < k))).length
/-- A row of at most two rising numbers from 1 to 31. -/
def Few (L : List Int) : Prop := L = [] ∨ (∃ a, L = [a] ∧ 1 ≤ a ∧ a ≤ 31) ∨ (∃ a b, L = [a, b] ∧ 1 ≤ a ∧ a < b ∧ b ≤ 31)
theorem few_in {L : List Int} (h : Few L) (k : Int) (hk : k ∈ L) : nV L k < L.length ∧ L[nV L k]? = some k ∧ nV L (k + 1) = nV L k + 1 := by
  rcases h with rfl | ⟨a, rfl, h1, h2⟩ | ⟨a, b, rfl, h1, h2, h3⟩
  · cases hk
  · simp only [List.mem_singleton] at hk
    subst hk
    have e1 : nV [k] k = 0 := by simp [nV]
    have e2 : nV [k] (k + 1) = 1 := by
      have : k < k + 1 := by omega
      simp [nV, List.filter_cons, *]
    rw [e1, e2]
    simp
  · simp only [List.mem_cons, List.not_mem_nil, or_false] at hk
    rcases hk with rfl | rfl
    · have e1 : nV [k, b] k = 0 := by
        have : ¬ b < k := by omega
        simp [nV, this]
      have e2 : nV [k, b] (k + 1) = 1 := by
        have : ¬ b < k + 1 := by omega
        have : k < k + 1 := by omega
        simp [nV, List.filter_cons, *]
      rw [e1, e2]
      simp
    · have e1 : nV [a, k] k = 1 := by
        have : a < k := by omega
        simp [nV, List.filter_cons, this]
      have e2 : nV [a, k] (k + 1) = 2 := by
        have : a < k + 1 := by omega
        have : k < k + 1 := by omega
        simp [nV, List.filter_cons, *]
      rw [e1, e2]
      simp
theorem few_out {L : List Int} (h : Few L) (k : Int) (hk : ¬ k ∈ L) : nV L (k + 1) = nV L k := by
  have e : ∀ x : Int, ¬ x = k → (decide (x < k + 1) = decide (x < k)) := by
    intro x hx
    rw [decide_eq_decide]
    omega
  rcases h with rfl | ⟨a, rfl, h1, h2⟩ | ⟨a, b, rfl, h1, h2, h3⟩
  · rfl
  · simp only [List.mem_singleton] at hk
    simp only [nV, List.filter_cons, e a (fun h => hk h.symm), List.filter_nil]
  · simp only [List.mem_cons, List.not_mem_nil, or_false, not_or] at hk
    simp only [nV, List.filter_cons, e a (fun h => hk.1 h.symm), e b (fun h => hk.2 h.symm), List.filter_nil]
theorem few_ends {L : List Int} (h : Few L) : nV L 1 = 0 ∧ nV L 32 = L.length := by
  rcases h with rfl | ⟨a, rfl, h1, h2⟩ | ⟨a, b, rfl, h1, h2, h3⟩
  · exact ⟨rfl, rfl⟩
  · have c1 : ¬ a < 1 := by omega
    have c2 : a < 32 := by omega
    simp [nV, List.filter_cons, c1, c2]
  · have c1 : ¬ a < 1 := by omega
    have c2 : a < 32 := by omega
    have c3 : ¬ b < 1 := by omega
    have c4 : b < 32 := by omega
    simp [nV, List.filter_cons, c1, c2, c3, c4]
theorem few_reads (op rs1 rs2 : Int) (h1 : 0 ≤ rs1 ∧ rs1 ≤ 31) (h2 : 0 ≤ rs2 ∧ rs2 ≤ 31) : Few (readsL true op rs1 rs2) := by
  unfold readsL
  split
  · unfold pairL Few
    rcases (by omega : rs1 ≤ rs2 ∨ rs2 < rs1) with ho | ho
    · rw [Int.min_eq_left ho, Int.max_eq_right ho]
      split
      · split
        · exact .inr (.inl ⟨rs2, rfl, by omega, by omega⟩)
        · exact .inl rfl
      · split
        · exact .inr (.inl ⟨rs1, rfl, by omega, by omega⟩)
        · exact .inr (.inr ⟨rs1, rs2, rfl, by omega, by omega, by omega⟩)
    · rw [Int.min_eq_right (Int.le_of_lt ho), Int.max_eq_left (Int.le_of_lt ho)]
      split
      · split
        · exact .inr (.inl ⟨rs1, rfl, by omega, by omega⟩)
        · exact .inl rfl
      · split
        · exact .inr (.inl ⟨rs2, rfl, by omega, by omega⟩)
        · exact .inr (.inr ⟨rs2, rs1, rfl, by omega, by omega, by omega⟩)
  · exact .inl rfl
def rdB (op rs1 rs2 k : Int) : Bool := plainB op && !(k == 0) && (rs1 == k || rs2 == k)
theorem reads_mem (op rs1 rs2 k : Int) (hk : 1 ≤ k) (h1 : 0 ≤ rs1 ∧ rs1 ≤ 31) (h2 : 0 ≤ rs2 ∧ rs2 ≤ 31) : rdB op rs1 rs2 k = true ↔ k ∈ readsL true op rs1 rs2 := by
  unfold rdB readsL
  have hk0 : (k == 0) = false := nb (by omega)
  rw [hk0]
  cases hp : plainB op
  · simp
  · simp only [Bool.not_false, Bool.and_true, Bool.true_and, Bool.or_eq_true, beq_iff_eq, and_self, if_true]
    unfold pairL
    rcases (by omega : rs1 ≤ rs2 ∨ rs2 < rs1) with ho | ho
    · rw [Int.min_eq_left ho, Int.max_eq_right ho]
      repeat' split
      all_goals (simp only [List.mem_cons, List.not_mem_nil, or_false, iff_false, not_or]; omega)
    · rw [Int.min_eq_right (Int.le_of_lt ho), Int.max_eq_left (Int.le_of_lt ho)]
      repeat' split
      all_goals (simp only [List.mem_cons, List.not_mem_nil, or_false, iff_false, not_or]; omega)
def wrV (b : Bool) (op rd : Int) : Int := if b = true ∧ plainB op = true then rd else 0
set_option maxHeartbeats 2000000 in
theorem writes_t (op rd rs1 rs2 imm csr : Int) (hi : 0 ≤ imm ∧ imm ≤ 4294967295) (w : World) (hf : FormsIs w) : Calls Tryd.prog 12 #[.agg #[.int .i64 op, .int .i64 rd, .int .i64 rs1, .int .i64 rs2, .int .u32 imm, .int .i64 csr]] w fun e w' =>
    e = .returned (.int .i64 (wrV (rightB op rd rs1 rs2 imm csr) op rd)) ∧ Below w.heap.size w w' := by
  have hbw := bal (Below.refl w.heap.size w) (.cells #[.int .i64 op, .int .i64 rd, .int .i64 rs1, .int .i64 rs2, .int .u32 imm, .int .i64 csr] 24)
  have hr := right_c op rd rs1 rs2 imm csr hi _ (hf.below hbw)
  have HBW := Lib.hid hbw
  clear hf hbw hi
  generalize rightB op rd rs1 rs2 imm csr = b at *
  cases b
  · have HR := Lib.hid hr
    clear hr
    go_enter Tryd.func12, Tryd.ntmps12
    go_wp2_with fail
    refine HR.out.mono ?_
    rintro e w1 ⟨rfl, hb1⟩
    have HB1 := Lib.hid (bthen HBW.out hb1)
    clear hb1
    go_wp2
    go_ret
    exact ⟨rfl, HB1.out⟩
  · have HR := Lib.hid hr
    clear hr
    rcases Bool.eq_false_or_eq_true (plainB op) with hp | hp
    all_goals
      have hv := (show wrV true op rd = if plainB op = true then rd else 0 by unfold wrV; simp)
      rw [hp] at hv
      rw [hv]
      clear hv
      go_enter Tryd.func12, Tryd.ntmps12
      go_wp2_with fail
      refine HR.out.mono ?_
      rintro e w1 ⟨rfl, hb1⟩
      have hc1 := (bcf hb1).1
      have HB1 := Lib.hid (bthen HBW.out hb1)
      have hlt : w.heap.size < w1.heap.size := by have := hb1.size; simp at this; omega
      clear hb1
      go_wp2_with (go_at_call 45; refine (plain_c op _).mono ?_; rintro e w' ⟨rfl, rfl⟩; rw [hp])
      go_ret
      exact ⟨by simp, HB1.out⟩
set_option maxHeartbeats 4000000 in
theorem rreads_t (op rd rs1 rs2 imm csr k : Int) (w : World) : Calls Tryd.prog 15 #[.agg #[.int .i64 op, .int .i64 rd, .int .i64 rs1, .int .i64 rs2, .int .u32 imm, .int .i64 csr], .int .i64 k] w fun e w' =>
    e = .returned (.bool (rdB op rs1 rs2 k)) ∧ Below w.heap.size w w' := by
  unfold rdB plainB
  rcases (by omega : op = 38 ∨ op = 39 ∨ (¬ op = 38 ∧ ¬ op = 39)) with rfl | rfl | ⟨h1, h2⟩
  all_goals
    by_cases hk : k = 0 <;> by_cases q1 : rs1 = k
  all_goals
    try (have k1 := nb h1
         have k2 := nb h2)
    first | (have k3 := nb hk) | (have k3 := yb hk)
    first | (have k4 := nb q1) | (have k4 := yb q1)
    clear hk q1
    go_enter Tryd.func15, Tryd.ntmps15
    go_wp2
    go_ret
    exact ⟨ret_b (by simp [*]), by repeat (first | (with_reducible exact Below.refl _ _) | (with_reducible refine bal ?_ _) | (with_reducible refine bdn ?_ _))⟩
end Go.Proofs.YtnooikjkjcflbabDoor
