-- PRINTED BY print.sh 35421559b90ae4d0a3588c463048766b98c2df88dd9212a6774a882060cdf62d: not written by this session
import Derived.Test.YtnooikjkjcflbabDoorPDecodeWordsx0
namespace Go.Proofs.YtnooikjkjcflbabDoor.PDecodeWords
open Go.RowKit Go.Proofs.YtnooikjkjcflbabDoorW.PrintWords Go.Proofs.YtnooikjkjcflbabDoorW.PrintLast Go.Proofs.YtnooikjkjcflbabDoorW.PrintMore
attribute [local go_sem] max2_int min2_int max_two min_two max_three min_three max_four min_four   -- for this text's walks alone
set_option linter.unusedVariables false
set_option linter.unusedSimpArgs false

/-! ### decode_field: function 81 -/
def decode_field.f (a0 : Int) (a1 : Int) (a2 : Int) : Option (Int) := if 0 ≤ (IntKind.u64.wrap (31 - a1)) then (if 0 ≤ (IntKind.u64.wrap ((IntKind.u64.wrap (31 - a1)) + a2)) then (some (shr .u32 (shl .u32 a0 (IntKind.u64.wrap (31 - a1))) (IntKind.u64.wrap ((IntKind.u64.wrap (31 - a1)) + a2)))) else (none)) else (none)
set_option maxHeartbeats 8000000 in
set_option maxRecDepth 100000 in
theorem decode_field.calls (a0 : Int) (a1 : Int) (a2 : Int) (r : Int) (w : World) (h : decode_field.f a0 a1 a2 = some r) :
    Calls Tryd.prog 81 #[.int .u32 a0, .int .u64 a1, .int .u64 a2] w fun e w' => e = .returned (.int .u32 r) ∧ Drawn0 w w' := by
  have H : (if 0 ≤ (IntKind.u64.wrap (31 - a1)) then (if 0 ≤ (IntKind.u64.wrap ((IntKind.u64.wrap (31 - a1)) + a2)) then (some (shr .u32 (shl .u32 a0 (IntKind.u64.wrap (31 - a1))) (IntKind.u64.wrap ((IntKind.u64.wrap (31 - a1)) + a2)))) else (none)) else (none)) = some r := h
  clear h
  obtain ⟨ji4, hji4⟩ : ∃ j_ : Int, (IntKind.u64.wrap (31 - a1)) = j_ := ⟨_, rfl⟩
  replace H : (if 0 ≤ (ji4) then (if 0 ≤ (IntKind.u64.wrap ((ji4) + a2)) then (some (shr .u32 (shl .u32 a0 (ji4)) (IntKind.u64.wrap ((ji4) + a2)))) else (none)) else (none)) = some r := by first | (rw [hji4] at H; exact H) | (simp only [hji4] at H ⊢; exact H)
  by_cases c5 : 0 ≤ (ji4)
  · rw [if_pos c5] at H
    have c5b0 := eq_true c5
    have c5b1 : decide (0 ≤ (ji4)) = true := decide_eq_true c5
    clear c5
    obtain ⟨ji6, hji6⟩ : ∃ j_ : Int, (shl .u32 a0 (ji4)) = j_ := ⟨_, rfl⟩
    replace H : (if 0 ≤ (IntKind.u64.wrap ((ji4) + a2)) then (some (shr .u32 (ji6) (IntKind.u64.wrap ((ji4) + a2)))) else (none)) = some r := by first | (rw [hji6] at H; exact H) | (simp only [hji6] at H ⊢; exact H)
    have hji6_ : (IntKind.u32.wrap (a0 * 2 ^ min (ji4).toNat 32)) = ji6 := hji6
    have hji6z : (ji4) ≤ 32 → (IntKind.u32.wrap (a0 * 2 ^ (ji4).toNat)) = ji6 := shl_small hji6
    obtain ⟨ji7, hji7⟩ : ∃ j_ : Int, (IntKind.u64.wrap ((ji4) + a2)) = j_ := ⟨_, rfl⟩
    replace H : (if 0 ≤ (ji7) then (some (shr .u32 (ji6) (ji7))) else (none)) = some r := by first | (rw [hji7] at H; exact H) | (simp only [hji7] at H ⊢; exact H)
    by_cases c8 : 0 ≤ (ji7)
    · rw [if_pos c8] at H
      have c8b0 := eq_true c8
      have c8b1 : decide (0 ≤ (ji7)) = true := decide_eq_true c8
      clear c8
      obtain ⟨ji9, hji9⟩ : ∃ j_ : Int, (shr .u32 (ji6) (ji7)) = j_ := ⟨_, rfl⟩
      replace H : (some ji9) = some r := by first | (rw [hji9] at H; exact H) | (simp only [hji9] at H ⊢; exact H)
      have hji9_ : ((ji6) / 2 ^ min (ji7).toNat 32) = ji9 := hji9
      have hji9z : (ji7) ≤ 32 → ((ji6) / 2 ^ (ji7).toNat) = ji9 := shr_small hji9
      obtain rfl := Option.some.inj H
      go_enter Tryd.func81, Tryd.ntmps81
      go_wp2
      go_ret
      exact ⟨by first | rfl | (simp; done) | (simp only [← hji4, ← hji6, ← hji7, ← hji9] <;> (first | rfl | simp)) | (simp [*]; done), by repeat (first | exact Drawn0.refl _ | apply Drawn0.step)⟩
    · rw [if_neg c8] at H
      exact absurd H (by simp)
  · rw [if_neg c5] at H
    exact absurd H (by simp)

/-! ### decode_branch: function 82 -/
def decode_branch.j0 : Nat → Int → Int → Bool → Option (Int)
  | 0, _, _, _ => none
  | k + 1, x0, x3, x4 => if x4 = true then (some (wrap64 (5 + (wrap64 (x0))))) else (if x3 = 4 then (some (wrap64 ((wrap64 (7 + (wrap64 (x0)))) - 4))) else (if x3 = 5 then (some (wrap64 ((wrap64 (7 + (wrap64 (x0)))) - 4))) else (if x3 = 6 then (some (wrap64 ((wrap64 (7 + (wrap64 (x0)))) - 4))) else (if x3 = 7 then (some (wrap64 ((wrap64 (7 + (wrap64 (x0)))) - 4))) else (some 0)))))
def decode_branch.f (k : Nat) (a0 : Int) : Option (Int) := if a0 = 0 then (decode_branch.j0 k a0 a0 (a0 == 0)) else (decode_branch.j0 k a0 a0 (a0 == 1))
theorem decode_branch.mono_l : ∀ k, (∀ y0 y1 y2, LeO (decode_branch.j0 k y0 y1 y2) (decode_branch.j0 (k + 1) y0 y1 y2))
  | 0 => fun _ _ _ r h => by simp [decode_branch.j0] at h
  | k + 1 => by
    have ih0 := decode_branch.mono_l k
    · intro y0 y1 y2
      unfold decode_branch.j0
      repeat' first
      | (with_reducible exact ih0 _ _ _)
      | (with_reducible exact LeO.refl _)
      | (with_reducible exact LeO.none _)
      | (with_reducible refine LeO.ite ?_ ?_)
      | (with_reducible refine LeO.bind ?_ (fun _ => ?_))
      | exact ih0 _ _ _
      | exact LeO.none _
      | refine LeO.ite ?_ ?_
      | refine LeO.bind ?_ (fun _ => ?_)
theorem decode_branch.mono : ∀ a0 k, LeO (decode_branch.f k a0) (decode_branch.f (k + 1) a0) := by
  intro a0 k
  have ih0 := decode_branch.mono_l k
  unfold decode_branch.f
  repeat' first
      | (with_reducible exact ih0 _ _ _)
      | (with_reducible exact LeO.refl _)
      | (with_reducible exact LeO.none _)
      | (with_reducible refine LeO.ite ?_ ?_)
      | (with_reducible refine LeO.bind ?_ (fun _ => ?_))
      | exact ih0 _ _ _
      | exact LeO.none _
      | refine LeO.ite ?_ ?_
      | refine LeO.bind ?_ (fun _ => ?_)
set_option maxHeartbeats 8000000 in
set_option maxRecDepth 100000 in
theorem decode_branch.calls (k : Nat) (a0 : Int) (r : Int) (w : World) (h : decode_branch.f k a0 = some r) :
    Calls Tryd.prog 82 #[.int .u32 a0] w fun e w' => e = .returned (.int .i64 r) ∧ Drawn0 w w' := by
  have H : (if a0 = 0 then (decode_branch.j0 k a0 a0 (a0 == 0)) else (decode_branch.j0 k a0 a0 (a0 == 1))) = some r := h
  clear h
  have HC2 := Aside0.mk H
  clear H
  go_enter Tryd.func82, Tryd.ntmps82
  go_upto_if 4 with (fail)
  go_cut [4] (fun v4 wc => ∃ (kq : Nat) (x4_1 : Bool), v4 = .bool x4_1 ∧ Aside0 (decode_branch.j0 kq a0 a0 x4_1 = some r) ∧ Aside0 (kq ≤ k) ∧ Drawn0 w wc)
  case first =>
    have H := HC2.out
    clear HC2
    by_cases c3 : a0 = 0
    · rw [if_pos c3] at H
      have c3b0 : (a0 == 0) = true := beq_iff_eq.mpr c3
      have c3b1 : (a0 != 0) = false := bne_eq_false_iff_eq.mpr c3
      clear c3
      (first | rw [c3b0] | (simp only [i64_w, i32_w]; rw [c3b0]) | skip)
      have H' := Aside0.mk H
      clear H
      go_wp2
      go_meet
      case rel => exact ⟨_, ((a0 == 0)), (by first | rfl | (simp; done) | (simp [*]; done)), H', ⟨by first | omega | exact Nat.le_refl _⟩, by repeat (first | exact Drawn0.refl _ | apply Drawn0.step)⟩
    · rw [if_neg c3] at H
      have c3b0 : (a0 == 0) = false := beq_eq_false_iff_ne.mpr c3
      have c3b1 : (a0 != 0) = true := bne_iff_ne.mpr c3
      (first | rw [c3b0] | (simp only [i64_w, i32_w]; rw [c3b0]) | skip)
      have H' := Aside0.mk H
      clear H
      go_wp2
      go_meet
      case rel => exact ⟨_, ((a0 == 1)), (by first | rfl | (simp; done) | (simp [*]; done)), H', ⟨by first | omega | exact Nat.le_refl _⟩, by repeat (first | exact Drawn0.refl _ | apply Drawn0.step)⟩
  case rest =>
    clear HC2
    try clear p2
    try clear c3
    try clear c3b0
    try clear c3b1
    obtain ⟨kq, x4_1, rfl, HA, HJ1, ⟨mc1, rfl⟩⟩ := hcut
    cases kq with
    | zero => exact absurd HA.out (by simp [decode_branch.j0])
    | succ kj1 =>
      have H := HA.out
      clear HA
      simp only [decode_branch.j0] at H
      by_cases c4 : x4_1 = true
      · subst c4
        have H1 : (some (wrap64 (5 + (wrap64 (a0))))) = some r := by rw [if_pos rfl] at H; exact H
        clear H
        have H := H1
        clear H1
        obtain rfl := Option.some.inj H
        go_wp2
        go_ret
        exact ⟨by first | rfl | (simp; done) | (simp [*]; done), by repeat (first | exact Drawn0.refl _ | apply Drawn0.step)⟩
      · replace c4 := Bool.eq_false_iff.mpr c4
        subst c4
        have H1 : (if a0 = 4 then (some (wrap64 ((wrap64 (7 + (wrap64 (a0)))) - 4))) else (if a0 = 5 then (some (wrap64 ((wrap64 (7 + (wrap64 (a0)))) - 4))) else (if a0 = 6 then (some (wrap64 ((wrap64 (7 + (wrap64 (a0)))) - 4))) else (if a0 = 7 then (some (wrap64 ((wrap64 (7 + (wrap64 (a0)))) - 4))) else (some 0))))) = some r := by rw [if_neg (show ¬ (false = true) by decide)] at H; exact H
        clear H
        have H := H1
        clear H1
        by_cases c5 : a0 = 4
        · rw [if_pos c5] at H
          have c5b0 : (a0 == 4) = true := beq_iff_eq.mpr c5
          have c5b1 : (a0 != 4) = false := bne_eq_false_iff_eq.mpr c5
          clear c5
          obtain rfl := Option.some.inj H
          go_wp2
          go_ret
          exact ⟨by first | rfl | (simp; done) | (simp [*]; done), by repeat (first | exact Drawn0.refl _ | apply Drawn0.step)⟩
        · rw [if_neg c5] at H
          have c5b0 : (a0 == 4) = false := beq_eq_false_iff_ne.mpr c5
          have c5b1 : (a0 != 4) = true := bne_iff_ne.mpr c5
          by_cases c6 : a0 = 5
          · rw [if_pos c6] at H
            have c6b0 : (a0 == 5) = true := beq_iff_eq.mpr c6
            have c6b1 : (a0 != 5) = false := bne_eq_false_iff_eq.mpr c6
            clear c6
            obtain rfl := Option.some.inj H
            go_wp2
            go_ret
            exact ⟨by first | rfl | (simp; done) | (simp [*]; done), by repeat (first | exact Drawn0.refl _ | apply Drawn0.step)⟩
          · rw [if_neg c6] at H
            have c6b0 : (a0 == 5) = false := beq_eq_false_iff_ne.mpr c6
            have c6b1 : (a0 != 5) = true := bne_iff_ne.mpr c6
            by_cases c7 : a0 = 6
            · rw [if_pos c7] at H
              have c7b0 : (a0 == 6) = true := beq_iff_eq.mpr c7
              have c7b1 : (a0 != 6) = false := bne_eq_false_iff_eq.mpr c7
              clear c7
              obtain rfl := Option.some.inj H
              go_wp2
              go_ret
              exact ⟨by first | rfl | (simp; done) | (simp [*]; done), by repeat (first | exact Drawn0.refl _ | apply Drawn0.step)⟩
            · rw [if_neg c7] at H
              have c7b0 : (a0 == 6) = false := beq_eq_false_iff_ne.mpr c7
              have c7b1 : (a0 != 6) = true := bne_iff_ne.mpr c7
              by_cases c8 : a0 = 7
              · rw [if_pos c8] at H
                have c8b0 : (a0 == 7) = true := beq_iff_eq.mpr c8
                have c8b1 : (a0 != 7) = false := bne_eq_false_iff_eq.mpr c8
                clear c8
                obtain rfl := Option.some.inj H
                go_wp2
                go_ret
                exact ⟨by first | rfl | (simp; done) | (simp [*]; done), by repeat (first | exact Drawn0.refl _ | apply Drawn0.step)⟩
              · rw [if_neg c8] at H
                have c8b0 : (a0 == 7) = false := beq_eq_false_iff_ne.mpr c8
                have c8b1 : (a0 != 7) = true := bne_iff_ne.mpr c8
                obtain rfl := Option.some.inj H
                go_wp2
                go_ret
                exact ⟨by first | rfl | (simp; done) | (simp [*]; done), by repeat (first | exact Drawn0.refl _ | apply Drawn0.step)⟩

/-! ### decode_load: function 83 -/
def decode_load.j0 : Nat → Int → Int → Bool → Option (Int)
  | 0, _, _, _ => none
  | k + 1, x0, x3, x4 => if x4 = true then (some (wrap64 (11 + (wrap64 (x0))))) else (if x3 = 4 then (some (wrap64 ((wrap64 (14 + (wrap64 (x0)))) - 4))) else (if x3 = 5 then (some (wrap64 ((wrap64 (14 + (wrap64 (x0)))) - 4))) else (some 0)))
def decode_load.f (k : Nat) (a0 : Int) : Option (Int) := if a0 = 0 then (decode_load.j0 k a0 a0 (a0 == 0)) else (if a0 = 1 then (decode_load.j0 k a0 a0 (a0 == 1)) else (decode_load.j0 k a0 a0 (a0 == 2)))
theorem decode_load.mono_l : ∀ k, (∀ y0 y1 y2, LeO (decode_load.j0 k y0 y1 y2) (decode_load.j0 (k + 1) y0 y1 y2))
  | 0 => fun _ _ _ r h => by simp [decode_load.j0] at h
  | k + 1 => by
    have ih0 := decode_load.mono_l k
    · intro y0 y1 y2
      unfold decode_load.j0
      repeat' first
      | (with_reducible exact ih0 _ _ _)
      | (with_reducible exact LeO.refl _)
      | (with_reducible exact LeO.none _)
      | (with_reducible refine LeO.ite ?_ ?_)
      | (with_reducible refine LeO.bind ?_ (fun _ => ?_))
      | exact ih0 _ _ _
      | exact LeO.none _
      | refine LeO.ite ?_ ?_
      | refine LeO.bind ?_ (fun _ => ?_)
theorem decode_load.mono : ∀ a0 k, LeO (decode_load.f k a0) (decode_load.f (k + 1) a0) := by
  intro a0 k
  have ih0 := decode_load.mono_l k
  unfold decode_load.f
  repeat' first
      | (with_reducible exact ih0 _ _ _)
      | (with_reducible exact LeO.refl _)
      | (with_reducible exact LeO.none _)
      | (with_reducible refine LeO.ite ?_ ?_)
      | (with_reducible refine LeO.bind ?_ (fun _ => ?_))
      | exact ih0 _ _ _
      | exact LeO.none _
      | refine LeO.ite ?_ ?_
      | refine LeO.bind ?_ (fun _ => ?_)
set_option maxHeartbeats 8000000 in
set_option maxRecDepth 100000 in
theorem decode_load.calls (k : Nat) (a0 : Int) (r : Int) (w : World) (h : decode_load.f k a0 = some r) :
    Calls Tryd.prog 83 #[.int .u32 a0] w fun e w' => e = .returned (.int .i64 r) ∧ Drawn0 w w' := by
  have H : (if a0 = 0 then (decode_load.j0 k a0 a0 (a0 == 0)) else (if a0 = 1 then (decode_load.j0 k a0 a0 (a0 == 1)) else (decode_load.j0 k a0 a0 (a0 == 2)))) = some r := h
  clear h
  have HC2 := Aside0.mk H
  clear H
  go_enter Tryd.func83, Tryd.ntmps83
  go_upto_if 4 with (fail)
  go_cut [4] (fun v4 wc => ∃ (kq : Nat) (x4_1 : Bool), v4 = .bool x4_1 ∧ Aside0 (decode_load.j0 kq a0 a0 x4_1 = some r) ∧ Aside0 (kq ≤ k) ∧ Drawn0 w wc)
  case first =>
    have H := HC2.out
    clear HC2
    by_cases c3 : a0 = 0
    · rw [if_pos c3] at H
      have c3b0 : (a0 == 0) = true := beq_iff_eq.mpr c3
      have c3b1 : (a0 != 0) = false := bne_eq_false_iff_eq.mpr c3
      clear c3
      (first | rw [c3b0] | (simp only [i64_w, i32_w]; rw [c3b0]) | skip)
      have H' := Aside0.mk H
      clear H
      go_wp2
      go_meet
      case rel => exact ⟨_, ((a0 == 0)), (by first | rfl | (simp; done) | (simp [*]; done)), H', ⟨by first | omega | exact Nat.le_refl _⟩, by repeat (first | exact Drawn0.refl _ | apply Drawn0.step)⟩
    · rw [if_neg c3] at H
      have c3b0 : (a0 == 0) = false := beq_eq_false_iff_ne.mpr c3
      have c3b1 : (a0 != 0) = true := bne_iff_ne.mpr c3
      (first | rw [c3b0] | (simp only [i64_w, i32_w]; rw [c3b0]) | skip)
      by_cases c4 : a0 = 1
      · rw [if_pos c4] at H
        have c4b0 : (a0 == 1) = true := beq_iff_eq.mpr c4
        have c4b1 : (a0 != 1) = false := bne_eq_false_iff_eq.mpr c4
        clear c4
        have H' := Aside0.mk H
        clear H
        go_wp2
        go_meet
        case rel => exact ⟨_, ((a0 == 1)), (by first | rfl | (simp; done) | (simp [*]; done)), H', ⟨by first | omega | exact Nat.le_refl _⟩, by repeat (first | exact Drawn0.refl _ | apply Drawn0.step)⟩
      · rw [if_neg c4] at H
        have c4b0 : (a0 == 1) = false := beq_eq_false_iff_ne.mpr c4
        have c4b1 : (a0 != 1) = true := bne_iff_ne.mpr c4
        have H' := Aside0.mk H
        clear H
        go_wp2
        go_meet
        case rel => exact ⟨_, ((a0 == 2)), (by first | rfl | (simp; done) | (simp [*]; done)), H', ⟨by first | omega | exact Nat.le_refl _⟩, by repeat (first | exact Drawn0.refl _ | apply Drawn0.step)⟩
  case rest =>
    clear HC2
    try clear p2
    try clear c3
    try clear c3b0
    try clear c3b1
    try clear c4
    try clear c4b0
    try clear c4b1
    obtain ⟨kq, x4_1, rfl, HA, HJ1, ⟨mc1, rfl⟩⟩ := hcut
    cases kq with
    | zero => exact absurd HA.out (by simp [decode_load.j0])
    | succ kj1 =>
      have H := HA.out
      clear HA
      simp only [decode_load.j0] at H
      by_cases c5 : x4_1 = true
      · subst c5
        have H1 : (some (wrap64 (11 + (wrap64 (a0))))) = some r := by rw [if_pos rfl] at H; exact H
        clear H
        have H := H1
        clear H1
        obtain rfl := Option.some.inj H
        go_wp2
        go_ret
        exact ⟨by first | rfl | (simp; done) | (simp [*]; done), by repeat (first | exact Drawn0.refl _ | apply Drawn0.step)⟩
      · replace c5 := Bool.eq_false_iff.mpr c5
        subst c5
        have H1 : (if a0 = 4 then (some (wrap64 ((wrap64 (14 + (wrap64 (a0)))) - 4))) else (if a0 = 5 then (some (wrap64 ((wrap64 (14 + (wrap64 (a0)))) - 4))) else (some 0))) = some r := by rw [if_neg (show ¬ (false = true) by decide)] at H; exact H
        clear H
        have H := H1
        clear H1
        by_cases c6 : a0 = 4
        · rw [if_pos c6] at H
          have c6b0 : (a0 == 4) = true := beq_iff_eq.mpr c6
          have c6b1 : (a0 != 4) = false := bne_eq_false_iff_eq.mpr c6
          clear c6
          obtain rfl := Option.some.inj H
          go_wp2
          go_ret
          exact ⟨by first | rfl | (simp; done) | (simp [*]; done), by repeat (first | exact Drawn0.refl _ | apply Drawn0.step)⟩
        · rw [if_neg c6] at H
          have c6b0 : (a0 == 4) = false := beq_eq_false_iff_ne.mpr c6
          have c6b1 : (a0 != 4) = true := bne_iff_ne.mpr c6
          by_cases c7 : a0 = 5
          · rw [if_pos c7] at H
            have c7b0 : (a0 == 5) = true := beq_iff_eq.mpr c7
            have c7b1 : (a0 != 5) = false := bne_eq_false_iff_eq.mpr c7
            clear c7
            obtain rfl := Option.some.inj H
            go_wp2
            go_ret
            exact ⟨by first | rfl | (simp; done) | (simp [*]; done), by repeat (first | exact Drawn0.refl _ | apply Drawn0.step)⟩
          · rw [if_neg c7] at H
            have c7b0 : (a0 == 5) = false := beq_eq_false_iff_ne.mpr c7
            have c7b1 : (a0 != 5) = true := bne_iff_ne.mpr c7
            obtain rfl := Option.some.inj H
            go_wp2
            go_ret
            exact ⟨by first | rfl | (simp; done) | (simp [*]; done), by repeat (first | exact Drawn0.refl _ | apply Drawn0.step)⟩

/-! ### decode_immediate: function 84 -/
def decode_immediate.f (a0 : Int) : Option (Int) := (decode_field.f a0 14 12).bind fun t143 => (if t143 = 0 then (some 19) else (if t143 = 2 then (some 20) else (if t143 = 3 then (some 21) else (if t143 = 4 then (some 22) else (if t143 = 6 then (some 23) else (if t143 = 7 then (some 24) else (if t143 = 1 then (if (a0 / 33554432) = 0 then (some 25) else (some 0)) else (if (a0 / 33554432) = 0 then (some 26) else (if (a0 / 33554432) = 32 then (some 27) else (some 0))))))))))
set_option maxHeartbeats 8000000 in
set_option maxRecDepth 100000 in
theorem decode_immediate.calls (a0 : Int) (r : Int) (w : World) (h : decode_immediate.f a0 = some r) :
    Calls Tryd.prog 84 #[.int .u32 a0] w fun e w' => e = .returned (.int .i64 r) ∧ Drawn0 w w' := by
  have H : ((decode_field.f a0 14 12).bind fun t143 => (if t143 = 0 then (some 19) else (if t143 = 2 then (some 20) else (if t143 = 3 then (some 21) else (if t143 = 4 then (some 22) else (if t143 = 6 then (some 23) else (if t143 = 7 then (some 24) else (if t143 = 1 then (if (a0 / 33554432) = 0 then (some 25) else (some 0)) else (if (a0 / 33554432) = 0 then (some 26) else (if (a0 / 33554432) = 32 then (some 27) else (some 0))))))))))) = some r := h
  clear h
  replace H := Option.bind_eq_some_iff.mp H
  obtain ⟨t143, A20, H⟩ := H
  replace H : (if t143 = 0 then (some 19) else (if t143 = 2 then (some 20) else (if t143 = 3 then (some 21) else (if t143 = 4 then (some 22) else (if t143 = 6 then (some 23) else (if t143 = 7 then (some 24) else (if t143 = 1 then (if (a0 / 33554432) = 0 then (some 25) else (some 0)) else (if (a0 / 33554432) = 0 then (some 26) else (if (a0 / 33554432) = 32 then (some 27) else (some 0)))))))))) = some r := H
  have A2 := Aside0.mk A20
  clear A20
  by_cases c3 : t143 = 0
  · rw [if_pos c3] at H
    have c3b0 : (t143 == 0) = true := beq_iff_eq.mpr c3
    have c3b1 : (t143 != 0) = false := bne_eq_false_iff_eq.mpr c3
    clear c3
    obtain rfl := Option.some.inj H
    go_enter Tryd.func84, Tryd.ntmps84
    go_wp2_with (first | ((with_reducible refine gate_callee (f := 81) rfl ?_); refine goesL_ (some 4) rfl rfl Tryd.func81 (by kernel_rfl) rfl #[.int .u32 a0, .int .u64 14, .int .u64 12] rfl (by (try simp only [List.map_toArray, List.map_cons, List.map_nil]); first | done | rfl | (simp only [List.length_drop, List.length_take]; rfl)) ?_; (with_reducible refine (decode_field.calls a0 14 12 t143 _ A2.out).mono ?_); rintro e w' ⟨rfl, ⟨nd, rfl⟩⟩; refine ⟨_, rfl, ?_⟩))
    go_ret
    exact ⟨by first | rfl | (simp; done) | (simp [*]; done), by repeat (first | exact Drawn0.refl _ | apply Drawn0.step)⟩
  · rw [if_neg c3] at H
    have c3b0 : (t143 == 0) = false := beq_eq_false_iff_ne.mpr c3
    have c3b1 : (t143 != 0) = true := bne_iff_ne.mpr c3
    by_cases c4 : t143 = 2
    · rw [if_pos c4] at H
      have c4b0 : (t143 == 2) = true := beq_iff_eq.mpr c4
      have c4b1 : (t143 != 2) = false := bne_eq_false_iff_eq.mpr c4
      clear c4
      obtain rfl := Option.some.inj H
      go_enter Tryd.func84, Tryd.ntmps84
      go_wp2_with (first | ((with_reducible refine gate_callee (f := 81) rfl ?_); refine goesL_ (some 4) rfl rfl Tryd.func81 (by kernel_rfl) rfl #[.int .u32 a0, .int .u64 14, .int .u64 12] rfl (by (try simp only [List.map_toArray, List.map_cons, List.map_nil]); first | done | rfl | (simp only [List.length_drop, List.length_take]; rfl)) ?_; (with_reducible refine (decode_field.calls a0 14 12 t143 _ A2.out).mono ?_); rintro e w' ⟨rfl, ⟨nd, rfl⟩⟩; refine ⟨_, rfl, ?_⟩))
      go_ret
      exact ⟨by first | rfl | (simp; done) | (simp [*]; done), by repeat (first | exact Drawn0.refl _ | apply Drawn0.step)⟩
    · rw [if_neg c4] at H
      have c4b0 : (t143 == 2) = false := beq_eq_false_iff_ne.mpr c4
      have c4b1 : (t143 != 2) = true := bne_iff_ne.mpr c4
      by_cases c5 : t143 = 3
      · rw [if_pos c5] at H
        have c5b0 : (t143 == 3) = true := beq_iff_eq.mpr c5
        have c5b1 : (t143 != 3) = false := bne_eq_false_iff_eq.mpr c5
        clear c5
        obtain rfl := Option.some.inj H
        go_enter Tryd.func84, Tryd.ntmps84
        go_wp2_with (first | ((with_reducible refine gate_callee (f := 81) rfl ?_); refine goesL_ (some 4) rfl rfl Tryd.func81 (by kernel_rfl) rfl #[.int .u32 a0, .int .u64 14, .int .u64 12] rfl (by (try simp only [List.map_toArray, List.map_cons, List.map_nil]); first | done | rfl | (simp only [List.length_drop, List.length_take]; rfl)) ?_; (with_reducible refine (decode_field.calls a0 14 12 t143 _ A2.out).mono ?_); rintro e w' ⟨rfl, ⟨nd, rfl⟩⟩; refine ⟨_, rfl, ?_⟩))
        go_ret
        exact ⟨by first | rfl | (simp; done) | (simp [*]; done), by repeat (first | exact Drawn0.refl _ | apply Drawn0.step)⟩
      · rw [if_neg c5] at H
        have c5b0 : (t143 == 3) = false := beq_eq_false_iff_ne.mpr c5
        have c5b1 : (t143 != 3) = true := bne_iff_ne.mpr c5
        by_cases c6 : t143 = 4
        · rw [if_pos c6] at H
          have c6b0 : (t143 == 4) = true := beq_iff_eq.mpr c6
          have c6b1 : (t143 != 4) = false := bne_eq_false_iff_eq.mpr c6
          clear c6
          obtain rfl := Option.some.inj H
          go_enter Tryd.func84, Tryd.ntmps84
          go_wp2_with (first | ((with_reducible refine gate_callee (f := 81) rfl ?_); refine goesL_ (some 4) rfl rfl Tryd.func81 (by kernel_rfl) rfl #[.int .u32 a0, .int .u64 14, .int .u64 12] rfl (by (try simp only [List.map_toArray, List.map_cons, List.map_nil]); first | done | rfl | (simp only [List.length_drop, List.length_take]; rfl)) ?_; (with_reducible refine (decode_field.calls a0 14 12 t143 _ A2.out).mono ?_); rintro e w' ⟨rfl, ⟨nd, rfl⟩⟩; refine ⟨_, rfl, ?_⟩))
          go_ret
          exact ⟨by first | rfl | (simp; done) | (simp [*]; done), by repeat (first | exact Drawn0.refl _ | apply Drawn0.step)⟩
        · rw [if_neg c6] at H
          have c6b0 : (t143 == 4) = false := beq_eq_false_iff_ne.mpr c6
          have c6b1 : (t143 != 4) = true := bne_iff_ne.mpr c6
          by_cases c7 : t143 = 6
          · rw [if_pos c7] at H
            have c7b0 : (t143 == 6) = true := beq_iff_eq.mpr c7
            have c7b1 : (t143 != 6) = false := bne_eq_false_iff_eq.mpr c7
            clear c7
            obtain rfl := Option.some.inj H
            go_enter Tryd.func84, Tryd.ntmps84
            go_wp2_with (first | ((with_reducible refine gate_callee (f := 81) rfl ?_); refine goesL_ (some 4) rfl rfl Tryd.func81 (by kernel_rfl) rfl #[.int .u32 a0, .int .u64 14, .int .u64 12] rfl (by (try simp only [List.map_toArray, List.map_cons, List.map_nil]); first | done | rfl | (simp only [List.length_drop, List.length_take]; rfl)) ?_; (with_reducible refine (decode_field.calls a0 14 12 t143 _ A2.out).mono ?_); rintro e w' ⟨rfl, ⟨nd, rfl⟩⟩; refine ⟨_, rfl, ?_⟩))
            go_ret
            exact ⟨by first | rfl | (simp; done) | (simp [*]; done), by repeat (first | exact Drawn0.refl _ | apply Drawn0.step)⟩
          · rw [if_neg c7] at H
            have c7b0 : (t143 == 6) = false := beq_eq_false_iff_ne.mpr c7
            have c7b1 : (t143 != 6) = true := bne_iff_ne.mpr c7
            by_cases c8 : t143 = 7
            · rw [if_pos c8] at H
              have c8b0 : (t143 == 7) = true := beq_iff_eq.mpr c8
              have c8b1 : (t143 != 7) = false := bne_eq_false_iff_eq.mpr c8
              clear c8
              obtain rfl := Option.some.inj H
              go_enter Tryd.func84, Tryd.ntmps84
              go_wp2_with (first | ((with_reducible refine gate_callee (f := 81) rfl ?_); refine goesL_ (some 4) rfl rfl Tryd.func81 (by kernel_rfl) rfl #[.int .u32 a0, .int .u64 14, .int .u64 12] rfl (by (try simp only [List.map_toArray, List.map_cons, List.map_nil]); first | done | rfl | (simp only [List.length_drop, List.length_take]; rfl)) ?_; (with_reducible refine (decode_field.calls a0 14 12 t143 _ A2.out).mono ?_); rintro e w' ⟨rfl, ⟨nd, rfl⟩⟩; refine ⟨_, rfl, ?_⟩))
              go_ret
              exact ⟨by first | rfl | (simp; done) | (simp [*]; done), by repeat (first | exact Drawn0.refl _ | apply Drawn0.step)⟩
            · rw [if_neg c8] at H
              have c8b0 : (t143 == 7) = false := beq_eq_false_iff_ne.mpr c8
              have c8b1 : (t143 != 7) = true := bne_iff_ne.mpr c8
              by_cases c9 : t143 = 1
              · rw [if_pos c9] at H
                have c9b0 : (t143 == 1) = true := beq_iff_eq.mpr c9
                have c9b1 : (t143 != 1) = false := bne_eq_false_iff_eq.mpr c9
                clear c9
                by_cases c10 : (a0 / 33554432) = 0
                · rw [if_pos c10] at H
                  have c10b0 : ((a0 / 33554432) == 0) = true := beq_iff_eq.mpr c10
                  have c10b1 : ((a0 / 33554432) != 0) = false := bne_eq_false_iff_eq.mpr c10
                  clear c10
                  obtain rfl := Option.some.inj H
                  go_enter Tryd.func84, Tryd.ntmps84
                  go_wp2_with (first | ((with_reducible refine gate_callee (f := 81) rfl ?_); refine goesL_ (some 4) rfl rfl Tryd.func81 (by kernel_rfl) rfl #[.int .u32 a0, .int .u64 14, .int .u64 12] rfl (by (try simp only [List.map_toArray, List.map_cons, List.map_nil]); first | done | rfl | (simp only [List.length_drop, List.length_take]; rfl)) ?_; (with_reducible refine (decode_field.calls a0 14 12 t143 _ A2.out).mono ?_); rintro e w' ⟨rfl, ⟨nd, rfl⟩⟩; refine ⟨_, rfl, ?_⟩))
                  go_ret
                  exact ⟨by first | rfl | (simp; done) | (simp [*]; done), by repeat (first | exact Drawn0.refl _ | apply Drawn0.step)⟩
                · rw [if_neg c10] at H
                  have c10b0 : ((a0 / 33554432) == 0) = false := beq_eq_false_iff_ne.mpr c10
                  have c10b1 : ((a0 / 33554432) != 0) = true := bne_iff_ne.mpr c10
                  obtain rfl := Option.some.inj H
                  go_enter Tryd.func84, Tryd.ntmps84
                  go_wp2_with (first | ((with_reducible refine gate_callee (f := 81) rfl ?_); refine goesL_ (some 4) rfl rfl Tryd.func81 (by kernel_rfl) rfl #[.int .u32 a0, .int .u64 14, .int .u64 12] rfl (by (try simp only [List.map_toArray, List.map_cons, List.map_nil]); first | done | rfl | (simp only [List.length_drop, List.length_take]; rfl)) ?_; (with_reducible refine (decode_field.calls a0 14 12 t143 _ A2.out).mono ?_); rintro e w' ⟨rfl, ⟨nd, rfl⟩⟩; refine ⟨_, rfl, ?_⟩))
                  go_ret
                  exact ⟨by first | rfl | (simp; done) | (simp [*]; done), by repeat (first | exact Drawn0.refl _ | apply Drawn0.step)⟩
              · rw [if_neg c9] at H
                have c9b0 : (t143 == 1) = false := beq_eq_false_iff_ne.mpr c9
                have c9b1 : (t143 != 1) = true := bne_iff_ne.mpr c9
                by_cases c11 : (a0 / 33554432) = 0
                · rw [if_pos c11] at H
                  have c11b0 : ((a0 / 33554432) == 0) = true := beq_iff_eq.mpr c11
                  have c11b1 : ((a0 / 33554432) != 0) = false := bne_eq_false_iff_eq.mpr c11
                  clear c11
                  obtain rfl := Option.some.inj H
                  go_enter Tryd.func84, Tryd.ntmps84
                  go_wp2_with (first | ((with_reducible refine gate_callee (f := 81) rfl ?_); refine goesL_ (some 4) rfl rfl Tryd.func81 (by kernel_rfl) rfl #[.int .u32 a0, .int .u64 14, .int .u64 12] rfl (by (try simp only [List.map_toArray, List.map_cons, List.map_nil]); first | done | rfl | (simp only [List.length_drop, List.length_take]; rfl)) ?_; (with_reducible refine (decode_field.calls a0 14 12 t143 _ A2.out).mono ?_); rintro e w' ⟨rfl, ⟨nd, rfl⟩⟩; refine ⟨_, rfl, ?_⟩))
                  go_ret
                  exact ⟨by first | rfl | (simp; done) | (simp [*]; done), by repeat (first | exact Drawn0.refl _ | apply Drawn0.step)⟩
                · rw [if_neg c11] at H
                  have c11b0 : ((a0 / 33554432) == 0) = false := beq_eq_false_iff_ne.mpr c11
                  have c11b1 : ((a0 / 33554432) != 0) = true := bne_iff_ne.mpr c11
                  by_cases c12 : (a0 / 33554432) = 32
                  · rw [if_pos c12] at H
                    have c12b0 : ((a0 / 33554432) == 32) = true := beq_iff_eq.mpr c12
                    have c12b1 : ((a0 / 33554432) != 32) = false := bne_eq_false_iff_eq.mpr c12
                    clear c12
                    obtain rfl := Option.some.inj H
                    go_enter Tryd.func84, Tryd.ntmps84
                    go_wp2_with (first | ((with_reducible refine gate_callee (f := 81) rfl ?_); refine goesL_ (some 4) rfl rfl Tryd.func81 (by kernel_rfl) rfl #[.int .u32 a0, .int .u64 14, .int .u64 12] rfl (by (try simp only [List.map_toArray, List.map_cons, List.map_nil]); first | done | rfl | (simp only [List.length_drop, List.length_take]; rfl)) ?_; (with_reducible refine (decode_field.calls a0 14 12 t143 _ A2.out).mono ?_); rintro e w' ⟨rfl, ⟨nd, rfl⟩⟩; refine ⟨_, rfl, ?_⟩))
                    go_ret
                    exact ⟨by first | rfl | (simp; done) | (simp [*]; done), by repeat (first | exact Drawn0.refl _ | apply Drawn0.step)⟩
                  · rw [if_neg c12] at H
                    have c12b0 : ((a0 / 33554432) == 32) = false := beq_eq_false_iff_ne.mpr c12
                    have c12b1 : ((a0 / 33554432) != 32) = true := bne_iff_ne.mpr c12
                    obtain rfl := Option.some.inj H
                    go_enter Tryd.func84, Tryd.ntmps84
                    go_wp2_with (first | ((with_reducible refine gate_callee (f := 81) rfl ?_); refine goesL_ (some 4) rfl rfl Tryd.func81 (by kernel_rfl) rfl #[.int .u32 a0, .int .u64 14, .int .u64 12] rfl (by (try simp only [List.map_toArray, List.map_cons, List.map_nil]); first | done | rfl | (simp only [List.length_drop, List.length_take]; rfl)) ?_; (with_reducible refine (decode_field.calls a0 14 12 t143 _ A2.out).mono ?_); rintro e w' ⟨rfl, ⟨nd, rfl⟩⟩; refine ⟨_, rfl, ?_⟩))
                    go_ret
                    exact ⟨by first | rfl | (simp; done) | (simp [*]; done), by repeat (first | exact Drawn0.refl _ | apply Drawn0.step)⟩

-- NOT PRINTED: function 85 (decode_registers)

/-! ### decode_system: function 86 -/
def decode_system.j0 : Nat → Int → Int → Int → Bool → Option (Int)
  | 0, _, _, _, _ => none
  | k + 1, x0, x3, x6, x7 => if x7 = true then (some (wrap64 ((wrap64 (42 + (wrap64 (x3)))) - 1))) else (if x6 = 5 then (some (wrap64 ((wrap64 (45 + (wrap64 (x3)))) - 5))) else (if x6 = 6 then (some (wrap64 ((wrap64 (45 + (wrap64 (x3)))) - 5))) else (if x6 = 7 then (some (wrap64 ((wrap64 (45 + (wrap64 (x3)))) - 5))) else (if x0 = 115 then (some 40) else (if x0 = 1048691 then (some 41) else (if x0 = 807403635 then (some 48) else (if x0 = 273678451 then (some 49) else (some 0))))))))
def decode_system.f (k : Nat) (a0 : Int) : Option (Int) := (decode_field.f a0 14 12).bind fun t145 => (if t145 = 1 then (decode_system.j0 k a0 t145 t145 (t145 == 1)) else (if t145 = 2 then (decode_system.j0 k a0 t145 t145 (t145 == 2)) else (decode_system.j0 k a0 t145 t145 (t145 == 3))))
theorem decode_system.mono_l : ∀ k, (∀ y0 y1 y2 y3, LeO (decode_system.j0 k y0 y1 y2 y3) (decode_system.j0 (k + 1) y0 y1 y2 y3))
  | 0 => fun _ _ _ _ r h => by simp [decode_system.j0] at h
  | k + 1 => by
    have ih0 := decode_system.mono_l k
    · intro y0 y1 y2 y3
      unfold decode_system.j0
      repeat' first
      | (with_reducible exact ih0 _ _ _ _)
      | (with_reducible exact LeO.refl _)
      | (with_reducible exact LeO.none _)
      | (with_reducible refine LeO.ite ?_ ?_)
      | (with_reducible refine LeO.bind ?_ (fun _ => ?_))
      | exact ih0 _ _ _ _
      | exact LeO.none _
      | refine LeO.ite ?_ ?_
      | refine LeO.bind ?_ (fun _ => ?_)
theorem decode_system.mono : ∀ a0 k, LeO (decode_system.f k a0) (decode_system.f (k + 1) a0) := by
  intro a0 k
  have ih0 := decode_system.mono_l k
  unfold decode_system.f
  repeat' first
      | (with_reducible exact ih0 _ _ _ _)
      | (with_reducible exact LeO.refl _)
      | (with_reducible exact LeO.none _)
      | (with_reducible refine LeO.ite ?_ ?_)
      | (with_reducible refine LeO.bind ?_ (fun _ => ?_))
      | exact ih0 _ _ _ _
      | exact LeO.none _
      | refine LeO.ite ?_ ?_
      | refine LeO.bind ?_ (fun _ => ?_)
set_option maxHeartbeats 8000000 in
set_option maxRecDepth 100000 in
theorem decode_system.calls (k : Nat) (a0 : Int) (r : Int) (w : World) (h : decode_system.f k a0 = some r) :
    Calls Tryd.prog 86 #[.int .u32 a0] w fun e w' => e = .returned (.int .i64 r) ∧ Drawn0 w w' := by
  have H : ((decode_field.f a0 14 12).bind fun t145 => (if t145 = 1 then (decode_system.j0 k a0 t145 t145 (t145 == 1)) else (if t145 = 2 then (decode_system.j0 k a0 t145 t145 (t145 == 2)) else (decode_system.j0 k a0 t145 t145 (t145 == 3))))) = some r := h
  clear h
  replace H := Option.bind_eq_some_iff.mp H
  obtain ⟨t145, A20, H⟩ := H
  replace H : (if t145 = 1 then (decode_system.j0 k a0 t145 t145 (t145 == 1)) else (if t145 = 2 then (decode_system.j0 k a0 t145 t145 (t145 == 2)) else (decode_system.j0 k a0 t145 t145 (t145 == 3)))) = some r := H
  have A2 := Aside0.mk A20
  clear A20
  have HC3 := Aside0.mk H
  clear H
  go_enter Tryd.func86, Tryd.ntmps86
  go_upto_if 7 with (first | ((with_reducible refine gate_callee (f := 81) rfl ?_); refine goesL_ (some 5) rfl rfl Tryd.func81 (by kernel_rfl) rfl #[.int .u32 a0, .int .u64 14, .int .u64 12] rfl (by (try simp only [List.map_toArray, List.map_cons, List.map_nil]); first | done | rfl | (simp only [List.length_drop, List.length_take]; rfl)) ?_; (with_reducible refine (decode_field.calls a0 14 12 t145 _ A2.out).mono ?_); rintro e w' ⟨rfl, ⟨nd, rfl⟩⟩; refine ⟨_, rfl, ?_⟩))
  (try simp only [Act.put, List.setIfInBounds_toArray, List.set_cons_zero, List.set_cons_succ])
  go_cut [7] (fun v7 wc => ∃ (kq : Nat) (x7_2 : Bool), v7 = .bool x7_2 ∧ Aside0 (decode_system.j0 kq a0 t145 t145 x7_2 = some r) ∧ Aside0 (kq ≤ k) ∧ Drawn0 w wc)
  case first =>
    have H := HC3.out
    clear HC3
    by_cases c4 : t145 = 1
    · rw [if_pos c4] at H
      have c4b0 : (t145 == 1) = true := beq_iff_eq.mpr c4
      have c4b1 : (t145 != 1) = false := bne_eq_false_iff_eq.mpr c4
      clear c4
      (first | rw [c4b0] | (simp only [i64_w, i32_w]; rw [c4b0]) | skip)
      have H' := Aside0.mk H
      clear H
      go_wp2
      go_meet
      case rel => exact ⟨_, ((t145 == 1)), (by first | rfl | (simp; done) | (simp [*]; done)), H', ⟨by first | omega | exact Nat.le_refl _⟩, by repeat (first | exact Drawn0.refl _ | apply Drawn0.step)⟩
    · rw [if_neg c4] at H
      have c4b0 : (t145 == 1) = false := beq_eq_false_iff_ne.mpr c4
      have c4b1 : (t145 != 1) = true := bne_iff_ne.mpr c4
      (first | rw [c4b0] | (simp only [i64_w, i32_w]; rw [c4b0]) | skip)
      by_cases c5 : t145 = 2
      · rw [if_pos c5] at H
        have c5b0 : (t145 == 2) = true := beq_iff_eq.mpr c5
        have c5b1 : (t145 != 2) = false := bne_eq_false_iff_eq.mpr c5
        clear c5
        have H' := Aside0.mk H
        clear H
        go_wp2
        go_meet
        case rel => exact ⟨_, ((t145 == 2)), (by first | rfl | (simp; done) | (simp [*]; done)), H', ⟨by first | omega | exact Nat.le_refl _⟩, by repeat (first | exact Drawn0.refl _ | apply Drawn0.step)⟩
      · rw [if_neg c5] at H
        have c5b0 : (t145 == 2) = false := beq_eq_false_iff_ne.mpr c5
        have c5b1 : (t145 != 2) = true := bne_iff_ne.mpr c5
        have H' := Aside0.mk H
        clear H
        go_wp2
        go_meet
        case rel => exact ⟨_, ((t145 == 3)), (by first | rfl | (simp; done) | (simp [*]; done)), H', ⟨by first | omega | exact Nat.le_refl _⟩, by repeat (first | exact Drawn0.refl _ | apply Drawn0.step)⟩
  case rest =>
    clear HC3
    try clear p2
    try clear c4
    try clear c4b0
    try clear c4b1
    try clear c5
    try clear c5b0
    try clear c5b1
    obtain ⟨kq, x7_2, rfl, HA, HJ2, ⟨mc2, rfl⟩⟩ := hcut
    cases kq with
    | zero => exact absurd HA.out (by simp [decode_system.j0])
    | succ kj2 =>
      have H := HA.out
      clear HA
      simp only [decode_system.j0] at H
      by_cases c6 : x7_2 = true
      · subst c6
        have H1 : (some (wrap64 ((wrap64 (42 + (wrap64 (t145)))) - 1))) = some r := by rw [if_pos rfl] at H; exact H
        clear H
        have H := H1
        clear H1
        obtain rfl := Option.some.inj H
        go_wp2
        go_ret
        exact ⟨by first | rfl | (simp; done) | (simp [*]; done), by repeat (first | exact Drawn0.refl _ | apply Drawn0.step)⟩
      · replace c6 := Bool.eq_false_iff.mpr c6
        subst c6
        have H1 : (if t145 = 5 then (some (wrap64 ((wrap64 (45 + (wrap64 (t145)))) - 5))) else (if t145 = 6 then (some (wrap64 ((wrap64 (45 + (wrap64 (t145)))) - 5))) else (if t145 = 7 then (some (wrap64 ((wrap64 (45 + (wrap64 (t145)))) - 5))) else (if a0 = 115 then (some 40) else (if a0 = 1048691 then (some 41) else (if a0 = 807403635 then (some 48) else (if a0 = 273678451 then (some 49) else (some 0)))))))) = some r := by rw [if_neg (show ¬ (false = true) by decide)] at H; exact H
        clear H
        have H := H1
        clear H1
        by_cases c7 : t145 = 5
        · rw [if_pos c7] at H
          have c7b0 : (t145 == 5) = true := beq_iff_eq.mpr c7
          have c7b1 : (t145 != 5) = false := bne_eq_false_iff_eq.mpr c7
          clear c7
          obtain rfl := Option.some.inj H
          go_wp2
          go_ret
          exact ⟨by first | rfl | (simp; done) | (simp [*]; done), by repeat (first | exact Drawn0.refl _ | apply Drawn0.step)⟩
        · rw [if_neg c7] at H
          have c7b0 : (t145 == 5) = false := beq_eq_false_iff_ne.mpr c7
          have c7b1 : (t145 != 5) = true := bne_iff_ne.mpr c7
          by_cases c8 : t145 = 6
          · rw [if_pos c8] at H
            have c8b0 : (t145 == 6) = true := beq_iff_eq.mpr c8
            have c8b1 : (t145 != 6) = false := bne_eq_false_iff_eq.mpr c8
            clear c8
            obtain rfl := Option.some.inj H
            go_wp2
            go_ret
            exact ⟨by first | rfl | (simp; done) | (simp [*]; done), by repeat (first | exact Drawn0.refl _ | apply Drawn0.step)⟩
          · rw [if_neg c8] at H
            have c8b0 : (t145 == 6) = false := beq_eq_false_iff_ne.mpr c8
            have c8b1 : (t145 != 6) = true := bne_iff_ne.mpr c8
            by_cases c9 : t145 = 7
            · rw [if_pos c9] at H
              have c9b0 : (t145 == 7) = true := beq_iff_eq.mpr c9
              have c9b1 : (t145 != 7) = false := bne_eq_false_iff_eq.mpr c9
              clear c9
              obtain rfl := Option.some.inj H
              go_wp2
              go_ret
              exact ⟨by first | rfl | (simp; done) | (simp [*]; done), by repeat (first | exact Drawn0.refl _ | apply Drawn0.step)⟩
            · rw [if_neg c9] at H
              have c9b0 : (t145 == 7) = false := beq_eq_false_iff_ne.mpr c9
              have c9b1 : (t145 != 7) = true := bne_iff_ne.mpr c9
              by_cases c10 : a0 = 115
              · rw [if_pos c10] at H
                have c10b0 : (a0 == 115) = true := beq_iff_eq.mpr c10
                have c10b1 : (a0 != 115) = false := bne_eq_false_iff_eq.mpr c10
                clear c10
                obtain rfl := Option.some.inj H
                go_wp2
                go_ret
                exact ⟨by first | rfl | (simp; done) | (simp [*]; done), by repeat (first | exact Drawn0.refl _ | apply Drawn0.step)⟩
              · rw [if_neg c10] at H
                have c10b0 : (a0 == 115) = false := beq_eq_false_iff_ne.mpr c10
                have c10b1 : (a0 != 115) = true := bne_iff_ne.mpr c10
                by_cases c11 : a0 = 1048691
                · rw [if_pos c11] at H
                  have c11b0 : (a0 == 1048691) = true := beq_iff_eq.mpr c11
                  have c11b1 : (a0 != 1048691) = false := bne_eq_false_iff_eq.mpr c11
                  clear c11
                  obtain rfl := Option.some.inj H
                  go_wp2
                  go_ret
                  exact ⟨by first | rfl | (simp; done) | (simp [*]; done), by repeat (first | exact Drawn0.refl _ | apply Drawn0.step)⟩
                · rw [if_neg c11] at H
                  have c11b0 : (a0 == 1048691) = false := beq_eq_false_iff_ne.mpr c11
                  have c11b1 : (a0 != 1048691) = true := bne_iff_ne.mpr c11
                  by_cases c12 : a0 = 807403635
                  · rw [if_pos c12] at H
                    have c12b0 : (a0 == 807403635) = true := beq_iff_eq.mpr c12
                    have c12b1 : (a0 != 807403635) = false := bne_eq_false_iff_eq.mpr c12
                    clear c12
                    obtain rfl := Option.some.inj H
                    go_wp2
                    go_ret
                    exact ⟨by first | rfl | (simp; done) | (simp [*]; done), by repeat (first | exact Drawn0.refl _ | apply Drawn0.step)⟩
                  · rw [if_neg c12] at H
                    have c12b0 : (a0 == 807403635) = false := beq_eq_false_iff_ne.mpr c12
                    have c12b1 : (a0 != 807403635) = true := bne_iff_ne.mpr c12
                    by_cases c13 : a0 = 273678451
                    · rw [if_pos c13] at H
                      have c13b0 : (a0 == 273678451) = true := beq_iff_eq.mpr c13
                      have c13b1 : (a0 != 273678451) = false := bne_eq_false_iff_eq.mpr c13
                      clear c13
                      obtain rfl := Option.some.inj H
                      go_wp2
                      go_ret
                      exact ⟨by first | rfl | (simp; done) | (simp [*]; done), by repeat (first | exact Drawn0.refl _ | apply Drawn0.step)⟩
                    · rw [if_neg c13] at H
                      have c13b0 : (a0 == 273678451) = false := beq_eq_false_iff_ne.mpr c13
                      have c13b1 : (a0 != 273678451) = true := bne_iff_ne.mpr c13
                      obtain rfl := Option.some.inj H
                      go_wp2
                      go_ret
                      exact ⟨by first | rfl | (simp; done) | (simp [*]; done), by repeat (first | exact Drawn0.refl _ | apply Drawn0.step)⟩

-- NOT PRINTED: function 70 (decode_kind)

/-! ### inst_has: function 51 -/
def inst_has.f (a0 : Int) : Option (Bool) := if a0 ≥ 0 then (some (decide (a0 < 58))) else (some false)
set_option maxHeartbeats 8000000 in
set_option maxRecDepth 100000 in
theorem inst_has.calls (a0 : Int) (r : Bool) (w : World) (h : inst_has.f a0 = some r) :
    Calls Tryd.prog 51 #[.int .i64 a0] w fun e w' => e = .returned (.bool r) ∧ Drawn0 w w' := by
  have H : (if a0 ≥ 0 then (some (decide (a0 < 58))) else (some false)) = some r := h
  clear h
  by_cases c2 : a0 ≥ 0
  · rw [if_pos c2] at H
    have c2b0 : decide (0 ≤ a0) = true := decide_eq_true c2
    clear c2
    obtain rfl := Option.some.inj H
    go_enter Tryd.func51, Tryd.ntmps51
    go_wp2
    go_ret
    exact ⟨by first | rfl | (simp; done) | (simp [*]; done), by repeat (first | exact Drawn0.refl _ | apply Drawn0.step)⟩
  · rw [if_neg c2] at H
    have c2b0 : decide (0 ≤ a0) = false := decide_eq_false c2
    clear c2
    obtain rfl := Option.some.inj H
    go_enter Tryd.func51, Tryd.ntmps51
    go_wp2
    go_ret
    exact ⟨by first | rfl | (simp; done) | (simp [*]; done), by repeat (first | exact Drawn0.refl _ | apply Drawn0.step)⟩

-- NOT PRINTED: function 53 (inst_Form)

/-! ### decode_top: function 91 -/
def decode_top.f (a0 : Int) (a1 : Int) : Option (Int) := if 0 ≤ a1 then (some ((shl .i32 ((wrap32 (a0)) / 2147483648) a1) % 4294967296)) else (none)
set_option maxHeartbeats 8000000 in
set_option maxRecDepth 100000 in
theorem decode_top.calls (a0 : Int) (a1 : Int) (r : Int) (w : World) (h : decode_top.f a0 a1 = some r) :
    Calls Tryd.prog 91 #[.int .u32 a0, .int .u64 a1] w fun e w' => e = .returned (.int .u32 r) ∧ Drawn0 w w' := by
  have H : (if 0 ≤ a1 then (some ((shl .i32 ((wrap32 (a0)) / 2147483648) a1) % 4294967296)) else (none)) = some r := h
  clear h
  by_cases c3 : 0 ≤ a1
  · rw [if_pos c3] at H
    have c3b0 := eq_true c3
    have c3b1 : decide (0 ≤ a1) = true := decide_eq_true c3
    clear c3
    obtain ⟨ji4, hji4⟩ : ∃ j_ : Int, (shl .i32 ((wrap32 (a0)) / 2147483648) a1) = j_ := ⟨_, rfl⟩
    replace H : (some ((ji4) % 4294967296)) = some r := by first | (rw [hji4] at H; exact H) | (simp only [hji4] at H ⊢; exact H)
    have hji4_ : (IntKind.i32.wrap (((wrap32 (a0)) / 2147483648) * 2 ^ min a1.toNat 32)) = ji4 := hji4
    have hji4z : a1 ≤ 32 → (IntKind.i32.wrap (((wrap32 (a0)) / 2147483648) * 2 ^ a1.toNat)) = ji4 := shl_small hji4
    have hji4y : (wrap32 (((wrap32 (a0)) / 2147483648) * 2 ^ min a1.toNat 32)) = ji4 := (i32_w _).symm.trans hji4_
    have hji4x : a1 ≤ 32 → (wrap32 (((wrap32 (a0)) / 2147483648) * 2 ^ a1.toNat)) = ji4 := fun h_ => (i32_w _).symm.trans (hji4z h_)
    obtain rfl := Option.some.inj H
    go_enter Tryd.func91, Tryd.ntmps91
    go_wp2
    go_ret
    exact ⟨by first | rfl | (simp; done) | (simp only [← hji4] <;> (first | rfl | simp)) | (simp [*]; done), by repeat (first | exact Drawn0.refl _ | apply Drawn0.step)⟩
  · rw [if_neg c3] at H
    exact absurd H (by simp)

end Go.Proofs.YtnooikjkjcflbabDoor.PDecodeWords
