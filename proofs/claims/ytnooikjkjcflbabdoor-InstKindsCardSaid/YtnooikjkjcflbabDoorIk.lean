/- The walk of the law InstKinds: it returns true. Conditions: the listed variables hold what the program's text lays in them. -/
import Derived.Test.YtnooikjkjcflbabDoorIa
namespace Go.Proofs.YtnooikjkjcflbabDoor
open Go.RowKit
set_option linter.unusedVariables false
set_option linter.unusedSimpArgs false

def endsB (op : Int) : Bool := decide (op ≤ 0 ∨ 58 ≤ op ∨ (3 ≤ op ∧ op ≤ 10) ∨ (39 ≤ op ∧ op ≤ 49))
def loadsV (op : Int) : Int := if op = 11 ∨ op = 14 then 1 else if op = 12 ∨ op = 15 then 2 else if op = 13 then 4 else 0
def storesV (op : Int) : Int := if op = 16 then 1 else if op = 17 then 2 else if op = 18 then 4 else 0
theorem ends_c (op : Int) (w : World) : Calls Tryd.prog 16 #[.int .i64 op] w fun e w' => e = .returned (.bool (endsB op)) ∧ w = w' := by
  rcases (by omega : op < 0 ∨ op = 0 ∨ (1 ≤ op ∧ op ≤ 2) ∨ (3 ≤ op ∧ op ≤ 10) ∨ (11 ≤ op ∧ op ≤ 38) ∨ (39 ≤ op ∧ op ≤ 49) ∨ (50 ≤ op ∧ op ≤ 57) ∨ 58 ≤ op) with h | rfl | ⟨h, h'⟩ | ⟨h, h'⟩ | ⟨h, h'⟩ | ⟨h, h'⟩ | ⟨h, h'⟩ | h
  all_goals
    have hb := has_c
    try have k1 : (op == 0) = false := nb (by omega)
    first | (have e1 : hasB op = true := by simp [hasB]; omega) | (have e1 : hasB op = false := by simp [hasB]; omega) | (have e1 : hasB 0 = true := by decide)
    go_enter Tryd.func16, Tryd.ntmps16
    go_wp2_with (go_at_call 51; refine (hb _ _).mono ?_; rintro e w' ⟨rfl, rfl⟩; rw [e1])
    go_ret
    refine ⟨ret_b ?_, rfl⟩
    rw [Bool.eq_iff_iff]
    simp [endsB]
    try omega
set_option synthInstance.maxHeartbeats 400000 in
set_option synthInstance.maxSize 4000 in
theorem rf_of (op : Int) (h0 : 1 ≤ op) (h1 : op ≤ 57) : ((1 ≤ op ∧ op ≤ 2) ∧ rformV op = 1) ∨ (op = 3 ∧ rformV op = 2) ∨ (op = 4 ∧ rformV op = 3) ∨ ((5 ≤ op ∧ op ≤ 10) ∧ rformV op = 4) ∨ (11 ≤ op ∧ op ≤ 38 ∧ rformV op = 3) ∨ (11 ≤ op ∧ op ≤ 38 ∧ rformV op = 5) ∨ (11 ≤ op ∧ op ≤ 38 ∧ rformV op = 6) ∨ (11 ≤ op ∧ op ≤ 38 ∧ rformV op = 7) ∨ (op = 39 ∧ rformV op = 3) ∨ ((40 ≤ op ∧ op ≤ 49) ∧ rformV op = 0) ∨ ((40 ≤ op ∧ op ≤ 49) ∧ rformV op = 8) ∨ ((40 ≤ op ∧ op ≤ 49) ∧ rformV op = 9) ∨ ((50 ≤ op ∧ op ≤ 57) ∧ rformV op = 6) := by
  obtain ⟨i, rfl⟩ := Int.eq_ofNat_of_zero_le (show 0 ≤ op by omega)
  have h : ∀ i, i < 58 → 1 ≤ i → ((1 ≤ ((i : Nat) : Int) ∧ (i : Int) ≤ 2) ∧ rformV i = 1) ∨ ((i : Int) = 3 ∧ rformV i = 2) ∨ ((i : Int) = 4 ∧ rformV i = 3) ∨ ((5 ≤ (i : Int) ∧ (i : Int) ≤ 10) ∧ rformV i = 4) ∨ (11 ≤ (i : Int) ∧ (i : Int) ≤ 38 ∧ rformV i = 3) ∨ (11 ≤ (i : Int) ∧ (i : Int) ≤ 38 ∧ rformV i = 5) ∨ (11 ≤ (i : Int) ∧ (i : Int) ≤ 38 ∧ rformV i = 6) ∨ (11 ≤ (i : Int) ∧ (i : Int) ≤ 38 ∧ rformV i = 7) ∨ ((i : Int) = 39 ∧ rformV i = 3) ∨ ((40 ≤ (i : Int) ∧ (i : Int) ≤ 49) ∧ rformV i = 0) ∨ ((40 ≤ (i : Int) ∧ (i : Int) ≤ 49) ∧ rformV i = 8) ∨ ((40 ≤ (i : Int) ∧ (i : Int) ≤ 49) ∧ rformV i = 9) ∨ ((50 ≤ (i : Int) ∧ (i : Int) ≤ 57) ∧ rformV i = 6) := by decide +kernel
  exact h i (by omega) (by omega)
set_option maxHeartbeats 4000000 in
theorem rends_c (op : Int) (w : World) : Calls Tryd.prog 17 #[.int .i64 op] w fun e w' => e = .returned (.bool (endsB op)) ∧ w = w' := by
  have hfc := Lib.hid (rform_c op)
  by_cases h0 : op ≤ 0
  · go_enter Tryd.func17, Tryd.ntmps17
    go_wp2
    go_ret
    exact ⟨ret_b (by simp [endsB]; omega), rfl⟩
  by_cases h1 : 58 ≤ op
  · go_enter Tryd.func17, Tryd.ntmps17
    go_wp2
    go_ret
    exact ⟨ret_b (by simp [endsB]; omega), rfl⟩
  rcases rf_of op (by omega) (by omega) with ⟨h, e⟩ | ⟨h, e⟩ | ⟨h, e⟩ | ⟨h, e⟩ | ⟨h, h', e⟩ | ⟨h, h', e⟩ | ⟨h, h', e⟩ | ⟨h, h', e⟩ | ⟨h, e⟩ | ⟨h, e⟩ | ⟨h, e⟩ | ⟨h, e⟩ | ⟨h, e⟩
  all_goals
    try have k1 : (op == 4) = false := nb (by omega)
    try have k1 : (op == 4) = true := yb (by omega)
    try have k2 : (op == 39) = false := nb (by omega)
    try have k2 : (op == 39) = true := yb (by omega)
    have hv : endsB op = decide (op ≤ 0 ∨ 58 ≤ op ∨ (3 ≤ op ∧ op ≤ 10) ∨ (39 ≤ op ∧ op ≤ 49)) := rfl
    first | (have e1 : endsB op = true := by (rw [hv]; simp; omega)) | (have e1 : endsB op = false := by (rw [hv]; simp; omega))
    rw [e1]
    clear hv e1 h
    try clear h'
    go_enter Tryd.func17, Tryd.ntmps17
    go_wp2_with (go_at_call 46; refine (hfc.out _).mono ?_; rintro e w' ⟨rfl, rfl⟩; rw [e])
    go_ret
    exact ⟨rfl, rfl⟩
theorem loads_c (op : Int) (w : World) : Calls Tryd.prog 18 #[.int .i64 op] w fun e w' => e = .returned (.int .i64 (loadsV op)) ∧ w = w' := by
  rcases (by omega : op = 11 ∨ op = 12 ∨ op = 13 ∨ op = 14 ∨ op = 15 ∨ (¬ op = 11 ∧ ¬ op = 12 ∧ ¬ op = 13 ∧ ¬ op = 14 ∧ ¬ op = 15)) with rfl | rfl | rfl | rfl | rfl | ⟨h1, h2, h3, h4, h5⟩
  all_goals
    try (have k1 := nb h1
         have k2 := nb h2
         have k3 := nb h3
         have k4 := nb h4
         have k5 := nb h5)
    go_enter Tryd.func18, Tryd.ntmps18
    go_wp2
    go_ret
    exact ⟨by simp [loadsV, *], rfl⟩
theorem rloads_c (op : Int) (w : World) : Calls Tryd.prog 19 #[.int .i64 op] w fun e w' => e = .returned (.int .i64 (loadsV op)) ∧ w = w' := by
  rcases (by omega : op = 11 ∨ op = 12 ∨ op = 13 ∨ op = 14 ∨ op = 15 ∨ (¬ op = 11 ∧ ¬ op = 12 ∧ ¬ op = 13 ∧ ¬ op = 14 ∧ ¬ op = 15)) with rfl | rfl | rfl | rfl | rfl | ⟨h1, h2, h3, h4, h5⟩
  all_goals
    try (have k1 := nb h1
         have k2 := nb h2
         have k3 := nb h3
         have k4 := nb h4
         have k5 := nb h5)
    go_enter Tryd.func19, Tryd.ntmps19
    go_wp2
    go_ret
    exact ⟨by simp [loadsV, *], rfl⟩
theorem stores_c (op : Int) (w : World) : Calls Tryd.prog 20 #[.int .i64 op] w fun e w' => e = .returned (.int .i64 (storesV op)) ∧ w = w' := by
  rcases (by omega : op = 16 ∨ op = 17 ∨ op = 18 ∨ (¬ op = 16 ∧ ¬ op = 17 ∧ ¬ op = 18)) with rfl | rfl | rfl | ⟨h1, h2, h3⟩
  all_goals
    try (have k1 := nb h1
         have k2 := nb h2
         have k3 := nb h3)
    go_enter Tryd.func20, Tryd.ntmps20
    go_wp2
    go_ret
    exact ⟨by simp [storesV, *], rfl⟩
theorem rstores_c (op : Int) (w : World) : Calls Tryd.prog 21 #[.int .i64 op] w fun e w' => e = .returned (.int .i64 (storesV op)) ∧ w = w' := by
  rcases (by omega : op = 16 ∨ op = 17 ∨ op = 18 ∨ (¬ op = 16 ∧ ¬ op = 17 ∧ ¬ op = 18)) with rfl | rfl | rfl | ⟨h1, h2, h3⟩
  all_goals
    try (have k1 := nb h1
         have k2 := nb h2
         have k3 := nb h3)
    go_enter Tryd.func21, Tryd.ntmps21
    go_wp2
    go_ret
    exact ⟨by simp [storesV, *], rfl⟩
theorem ikinds_w (op : Int) (w : World) (hn : NamesIs w) (hf : FormsIs w) : Calls Tryd.prog 4 #[.int .i64 op] w fun e w' => e = .returned (.bool true) ∧ Below w.heap.size w w' := by
  have HN := Lib.hid hn
  have HF := Lib.hid hf
  clear hn hf
  go_enter Tryd.func4, Tryd.ntmps4
  go_wp2_with (first | (go_at_call 16; refine (ends_c _ _).mono ?_; rintro e w' ⟨rfl, rfl⟩) | (go_at_call 17; refine (rends_c _ _).mono ?_; rintro e w' ⟨rfl, rfl⟩) | (go_at_call 18; refine (loads_c _ _).mono ?_; rintro e w' ⟨rfl, rfl⟩) | (go_at_call 19; refine (rloads_c _ _).mono ?_; rintro e w' ⟨rfl, rfl⟩) | (go_at_call 20; refine (stores_c _ _).mono ?_; rintro e w' ⟨rfl, rfl⟩) | (go_at_call 21; refine (rstores_c _ _).mono ?_; rintro e w' ⟨rfl, rfl⟩) | (go_at_call 14; refine (awake2_c _ HN.out HF.out).mono ?_; rintro e w' ⟨rfl, hb⟩))
  go_ret
  exact ⟨by simp, hb⟩
end Go.Proofs.YtnooikjkjcflbabDoor
