/- Functions of the program as plain functions, and contracts of them: printed by the kit's print for this seat, cut into a text of our own. Conditions: the plain function answers. -/
import Derived.Test.YthjgakoofmmloaaZPNumberDoesx8
namespace Go.Proofs.Ythjgakoofmmloaa.PNumberDoes
open Go.RowKit Go.Proofs.YthjgakoofmmloaaW.PrintWords Go.Proofs.YthjgakoofmmloaaW.PrintLast Go.Proofs.YthjgakoofmmloaaW.PrintMore
attribute [local go_sem] max2_int min2_int max_two min_two qQ qR max_four min_four
set_option linter.unusedVariables false
set_option linter.unusedSimpArgs false

def guard_Other.j0 : Nat → Int → Int → Bool → Option (Int)
 | 0, _, _, _ => none
 | k + 1, x0, x3, x4 => if x4 = true then (some (wrap64 (x0 + 1))) else (if x3 = 6 then (some (wrap64 (x0 - 1))) else (if x3 = 8 then (some (wrap64 (x0 - 1))) else (if x3 = 10 then (some (wrap64 (x0 - 1))) else (some 0))))
def guard_Other.f (k : Nat) (a0 : Int) : Option (Int) := if a0 = 5 then (guard_Other.j0 k a0 a0 (a0 == 5)) else (if a0 = 7 then (guard_Other.j0 k a0 a0 (a0 == 7)) else (guard_Other.j0 k a0 a0 (a0 == 9)))
set_option maxHeartbeats 8000000 in
set_option maxRecDepth 100000 in
theorem guard_Other.calls (k : Nat) (a0 : Int) (r : Int) (w : World) (h : guard_Other.f k a0 = some r) :
  Calls Try.prog 37 #[.int .i64 a0] w fun e w' => e = .returned (.int .i64 r) ∧ Drawn0 w w' := by
 have H : (if a0 = 5 then (guard_Other.j0 k a0 a0 (a0 == 5)) else (if a0 = 7 then (guard_Other.j0 k a0 a0 (a0 == 7)) else (guard_Other.j0 k a0 a0 (a0 == 9)))) = some r := h
 clear h
 have HC2 := Aside0.mk H
 clear H
 go_enter Try.func37, Try.ntmps37
 go_upto_if 4 with (fail)
 go_cut [4] (fun v4 wc => ∃ (kq : Nat) (x4_1 : Bool), v4 = .bool x4_1 ∧ Aside0 (guard_Other.j0 kq a0 a0 x4_1 = some r) ∧ Aside0 (kq ≤ k) ∧ Drawn0 w wc)
 case first =>
  have H := HC2.out
  clear HC2
  by_cases c3 : a0 = 5
  ·rw [if_pos c3] at H
   have c3b0 : (a0 == 5) = true := beq_iff_eq.mpr c3
   have c3b1 : (a0 != 5) = false := bne_eq_false_iff_eq.mpr c3
   clear c3
   (first | rw [c3b0] | (simp only [i64_w, i32_w]; rw [c3b0]) | skip)
   have H' := Aside0.mk H
   clear H
   go_wp2
   go_meet
   case rel => exact ⟨_, ((a0 == 5)), (by first | rfl | (simp; done) | (simp [*]; done)), H', ⟨by first | omega | exact Nat.le_refl _⟩, by repeat (first | exact Drawn0.refl _ | apply Drawn0.step)⟩
  ·rw [if_neg c3] at H
   have c3b0 : (a0 == 5) = false := beq_eq_false_iff_ne.mpr c3
   have c3b1 : (a0 != 5) = true := bne_iff_ne.mpr c3
   (first | rw [c3b0] | (simp only [i64_w, i32_w]; rw [c3b0]) | skip)
   by_cases c4 : a0 = 7
   ·rw [if_pos c4] at H
    have c4b0 : (a0 == 7) = true := beq_iff_eq.mpr c4
    have c4b1 : (a0 != 7) = false := bne_eq_false_iff_eq.mpr c4
    clear c4
    have H' := Aside0.mk H
    clear H
    go_wp2
    go_meet
    case rel => exact ⟨_, ((a0 == 7)), (by first | rfl | (simp; done) | (simp [*]; done)), H', ⟨by first | omega | exact Nat.le_refl _⟩, by repeat (first | exact Drawn0.refl _ | apply Drawn0.step)⟩
   ·rw [if_neg c4] at H
    have c4b0 : (a0 == 7) = false := beq_eq_false_iff_ne.mpr c4
    have c4b1 : (a0 != 7) = true := bne_iff_ne.mpr c4
    have H' := Aside0.mk H
    clear H
    go_wp2
    go_meet
    case rel => exact ⟨_, ((a0 == 9)), (by first | rfl | (simp; done) | (simp [*]; done)), H', ⟨by first | omega | exact Nat.le_refl _⟩, by repeat (first | exact Drawn0.refl _ | apply Drawn0.step)⟩
 case rest =>
  clear HC2
  try clear p2
  try clear c3
  try clear c3b0
  try clear c3b1
  try clear c4
  try clear c4b0
  try clear c4b1
  obtain ⟨kq, x4_1, rfl, HA, HJ1, ⟨mc1, rfl⟩⟩ := hcut
  cases kq with
  | zero => exact absurd HA.out (by simp [guard_Other.j0])
  | succ kj1 =>
   have H := HA.out
   clear HA
   simp only [guard_Other.j0] at H
   by_cases c5 : x4_1 = true
   ·subst c5
    have H1 : (some (wrap64 (a0 + 1))) = some r := by rw [if_pos rfl] at H; exact H
    clear H
    have H := H1
    clear H1
    obtain rfl := Option.some.inj H
    go_wp2
    go_ret
    exact ⟨by first | rfl | (simp; done) | (simp [*]; done), by repeat (first | exact Drawn0.refl _ | apply Drawn0.step)⟩
   ·replace c5 := Bool.eq_false_iff.mpr c5
    subst c5
    have H1 : (if a0 = 6 then (some (wrap64 (a0 - 1))) else (if a0 = 8 then (some (wrap64 (a0 - 1))) else (if a0 = 10 then (some (wrap64 (a0 - 1))) else (some 0)))) = some r := by rw [if_neg (show ¬ (false = true) by decide)] at H; exact H
    clear H
    have H := H1
    clear H1
    by_cases c6 : a0 = 6
    ·rw [if_pos c6] at H
     have c6b0 : (a0 == 6) = true := beq_iff_eq.mpr c6
     have c6b1 : (a0 != 6) = false := bne_eq_false_iff_eq.mpr c6
     clear c6
     obtain rfl := Option.some.inj H
     go_wp2
     go_ret
     exact ⟨by first | rfl | (simp; done) | (simp [*]; done), by repeat (first | exact Drawn0.refl _ | apply Drawn0.step)⟩
    ·rw [if_neg c6] at H
     have c6b0 : (a0 == 6) = false := beq_eq_false_iff_ne.mpr c6
     have c6b1 : (a0 != 6) = true := bne_iff_ne.mpr c6
     by_cases c7 : a0 = 8
     ·rw [if_pos c7] at H
      have c7b0 : (a0 == 8) = true := beq_iff_eq.mpr c7
      have c7b1 : (a0 != 8) = false := bne_eq_false_iff_eq.mpr c7
      clear c7
      obtain rfl := Option.some.inj H
      go_wp2
      go_ret
      exact ⟨by first | rfl | (simp; done) | (simp [*]; done), by repeat (first | exact Drawn0.refl _ | apply Drawn0.step)⟩
     ·rw [if_neg c7] at H
      have c7b0 : (a0 == 8) = false := beq_eq_false_iff_ne.mpr c7
      have c7b1 : (a0 != 8) = true := bne_iff_ne.mpr c7
      by_cases c8 : a0 = 10
      ·rw [if_pos c8] at H
       have c8b0 : (a0 == 10) = true := beq_iff_eq.mpr c8
       have c8b1 : (a0 != 10) = false := bne_eq_false_iff_eq.mpr c8
       clear c8
       obtain rfl := Option.some.inj H
       go_wp2
       go_ret
       exact ⟨by first | rfl | (simp; done) | (simp [*]; done), by repeat (first | exact Drawn0.refl _ | apply Drawn0.step)⟩
      ·rw [if_neg c8] at H
       have c8b0 : (a0 == 10) = false := beq_eq_false_iff_ne.mpr c8
       have c8b1 : (a0 != 10) = true := bne_iff_ne.mpr c8
       obtain rfl := Option.some.inj H
       go_wp2
       go_ret
       exact ⟨by first | rfl | (simp; done) | (simp [*]; done), by repeat (first | exact Drawn0.refl _ | apply Drawn0.step)⟩

def alu_Taken.f (a0 : Int) (a1 : Int) (a2 : Int) : Option (Bool × Int) := if a0 = 5 then (some ((a1 == a2), 0)) else (if a0 = 6 then (some ((a1 != a2), 0)) else (if a0 = 7 then (some (decide ((wrap32 (a1)) < (wrap32 (a2))), 0)) else (if a0 = 8 then (some (decide ((wrap32 (a1)) ≥ (wrap32 (a2))), 0)) else (if a0 = 9 then (some (decide (a1 < a2), 0)) else (if a0 = 10 then (some (decide (a1 ≥ a2), 0)) else (some (false, 9)))))))
set_option maxHeartbeats 8000000 in
set_option maxRecDepth 100000 in
theorem alu_Taken.calls (a0 : Int) (a1 : Int) (a2 : Int) (r1 : Bool) (r2 : Int) (w : World) (h : alu_Taken.f a0 a1 a2 = some (r1, r2)) :
  Calls Try.prog 126 #[.int .i64 a0, .int .u32 a1, .int .u32 a2] w fun e w' => e = .returned (.tuple #[.bool r1, .int .i64 r2]) ∧ Drawn0 w w' := by
 have H : (if a0 = 5 then (some ((a1 == a2), 0)) else (if a0 = 6 then (some ((a1 != a2), 0)) else (if a0 = 7 then (some (decide ((wrap32 (a1)) < (wrap32 (a2))), 0)) else (if a0 = 8 then (some (decide ((wrap32 (a1)) ≥ (wrap32 (a2))), 0)) else (if a0 = 9 then (some (decide (a1 < a2), 0)) else (if a0 = 10 then (some (decide (a1 ≥ a2), 0)) else (some (false, 9)))))))) = some (r1, r2) := h
 clear h
 by_cases c4 : a0 = 5
 ·rw [if_pos c4] at H
  have c4b0 : (a0 == 5) = true := beq_iff_eq.mpr c4
  have c4b1 : (a0 != 5) = false := bne_eq_false_iff_eq.mpr c4
  clear c4
  simp only [Option.some.injEq, Prod.mk.injEq] at H
  obtain ⟨rfl, rfl⟩ := H
  go_enter Try.func126, Try.ntmps126
  go_wp2
  go_ret2
  exact ⟨by first | rfl | (simp; done) | (simp [*]; done), by repeat (first | exact Drawn0.refl _ | apply Drawn0.step)⟩
 ·rw [if_neg c4] at H
  have c4b0 : (a0 == 5) = false := beq_eq_false_iff_ne.mpr c4
  have c4b1 : (a0 != 5) = true := bne_iff_ne.mpr c4
  by_cases c5 : a0 = 6
  ·rw [if_pos c5] at H
   have c5b0 : (a0 == 6) = true := beq_iff_eq.mpr c5
   have c5b1 : (a0 != 6) = false := bne_eq_false_iff_eq.mpr c5
   clear c5
   simp only [Option.some.injEq, Prod.mk.injEq] at H
   obtain ⟨rfl, rfl⟩ := H
   go_enter Try.func126, Try.ntmps126
   go_wp2
   go_ret2
   exact ⟨by first | rfl | (simp; done) | (simp [*]; done), by repeat (first | exact Drawn0.refl _ | apply Drawn0.step)⟩
  ·rw [if_neg c5] at H
   have c5b0 : (a0 == 6) = false := beq_eq_false_iff_ne.mpr c5
   have c5b1 : (a0 != 6) = true := bne_iff_ne.mpr c5
   by_cases c6 : a0 = 7
   ·rw [if_pos c6] at H
    have c6b0 : (a0 == 7) = true := beq_iff_eq.mpr c6
    have c6b1 : (a0 != 7) = false := bne_eq_false_iff_eq.mpr c6
    clear c6
    simp only [Option.some.injEq, Prod.mk.injEq] at H
    obtain ⟨rfl, rfl⟩ := H
    go_enter Try.func126, Try.ntmps126
    go_wp2
    go_ret2
    exact ⟨by first | rfl | (simp; done) | (simp [*]; done), by repeat (first | exact Drawn0.refl _ | apply Drawn0.step)⟩
   ·rw [if_neg c6] at H
    have c6b0 : (a0 == 7) = false := beq_eq_false_iff_ne.mpr c6
    have c6b1 : (a0 != 7) = true := bne_iff_ne.mpr c6
    by_cases c7 : a0 = 8
    ·rw [if_pos c7] at H
     have c7b0 : (a0 == 8) = true := beq_iff_eq.mpr c7
     have c7b1 : (a0 != 8) = false := bne_eq_false_iff_eq.mpr c7
     clear c7
     simp only [Option.some.injEq, Prod.mk.injEq] at H
     obtain ⟨rfl, rfl⟩ := H
     go_enter Try.func126, Try.ntmps126
     go_wp2
     go_ret2
     exact ⟨by first | rfl | (simp; done) | (simp [*]; done), by repeat (first | exact Drawn0.refl _ | apply Drawn0.step)⟩
    ·rw [if_neg c7] at H
     have c7b0 : (a0 == 8) = false := beq_eq_false_iff_ne.mpr c7
     have c7b1 : (a0 != 8) = true := bne_iff_ne.mpr c7
     by_cases c8 : a0 = 9
     ·rw [if_pos c8] at H
      have c8b0 : (a0 == 9) = true := beq_iff_eq.mpr c8
      have c8b1 : (a0 != 9) = false := bne_eq_false_iff_eq.mpr c8
      clear c8
      simp only [Option.some.injEq, Prod.mk.injEq] at H
      obtain ⟨rfl, rfl⟩ := H
      go_enter Try.func126, Try.ntmps126
      go_wp2
      go_ret2
      exact ⟨by first | rfl | (simp; done) | (simp [*]; done), by repeat (first | exact Drawn0.refl _ | apply Drawn0.step)⟩
     ·rw [if_neg c8] at H
      have c8b0 : (a0 == 9) = false := beq_eq_false_iff_ne.mpr c8
      have c8b1 : (a0 != 9) = true := bne_iff_ne.mpr c8
      by_cases c9 : a0 = 10
      ·rw [if_pos c9] at H
       have c9b0 : (a0 == 10) = true := beq_iff_eq.mpr c9
       have c9b1 : (a0 != 10) = false := bne_eq_false_iff_eq.mpr c9
       clear c9
       simp only [Option.some.injEq, Prod.mk.injEq] at H
       obtain ⟨rfl, rfl⟩ := H
       go_enter Try.func126, Try.ntmps126
       go_wp2
       go_ret2
       exact ⟨by first | rfl | (simp; done) | (simp [*]; done), by repeat (first | exact Drawn0.refl _ | apply Drawn0.step)⟩
      ·rw [if_neg c9] at H
       have c9b0 : (a0 == 10) = false := beq_eq_false_iff_ne.mpr c9
       have c9b1 : (a0 != 10) = true := bne_iff_ne.mpr c9
       simp only [Option.some.injEq, Prod.mk.injEq] at H
       obtain ⟨rfl, rfl⟩ := H
       go_enter Try.func126, Try.ntmps126
       go_wp2
       go_ret2
       exact ⟨by first | rfl | (simp; done) | (simp [*]; done), by repeat (first | exact Drawn0.refl _ | apply Drawn0.step)⟩

def guard_told.f (a0 : Bool) : Option (Int) := if a0 = true then (some 1) else (some 2)
set_option maxHeartbeats 8000000 in
set_option maxRecDepth 100000 in
theorem guard_told.calls (a0 : Bool) (r : Int) (w : World) (h : guard_told.f a0 = some r) :
  Calls Try.prog 127 #[.bool a0] w fun e w' => e = .returned (.int .i64 r) ∧ Drawn0 w w' := by
 have H : (if a0 = true then (some 1) else (some 2)) = some r := h
 clear h
 by_cases c2 : a0 = true
 ·subst c2
  have H1 : (some 1) = some r := by rw [if_pos rfl] at H; exact H
  clear H
  have H := H1
  clear H1
  obtain rfl := Option.some.inj H
  go_enter Try.func127, Try.ntmps127
  go_wp2
  go_ret
  exact ⟨by first | rfl | (simp; done) | (simp [*]; done), by repeat (first | exact Drawn0.refl _ | apply Drawn0.step)⟩
 ·replace c2 := Bool.eq_false_iff.mpr c2
  subst c2
  have H1 : (some 2) = some r := by rw [if_neg (show ¬ (false = true) by decide)] at H; exact H
  clear H
  have H := H1
  clear H1
  obtain rfl := Option.some.inj H
  go_enter Try.func127, Try.ntmps127
  go_wp2
  go_ret
  exact ⟨by first | rfl | (simp; done) | (simp [*]; done), by repeat (first | exact Drawn0.refl _ | apply Drawn0.step)⟩

-- NOT PRINTED: function 107 (guard_guarder_known)

-- NOT PRINTED: function 77 (guard_guarder_through)

-- NOT PRINTED: function 36 (guard_Do)

-- NOT PRINTED: function 35 (mimesislaw31_awake)

-- NOT PRINTED: function 40 (guard_Many)

def mimesisref31_Other.f (a0 : Int) : Option (Int) := if a0 < 5 then (some 0) else (if a0 > 10 then (some 0) else ((some (([6, 5, 8, 7, 10, 9] : List Int) : List Int)).bind fun y199 => (if 0 ≤ (wrap64 (a0 - 5)) then (if (wrap64 (a0 - 5)) < (y199.length : Int) then (some (rd y199 (wrap64 (a0 - 5)))) else (none)) else (none))))
set_option maxHeartbeats 8000000 in
set_option maxRecDepth 100000 in
theorem mimesisref31_Other.calls (a0 : Int) (r : Int) (w : World) (h : mimesisref31_Other.f a0 = some r) :
  Calls Try.prog 38 #[.int .i64 a0] w fun e w' => e = .returned (.int .i64 r) ∧ Below w.heap.size w w' := by
 have HB := Aside0.mk (Below.refl w.heap.size w)
 have H : (if a0 < 5 then (some 0) else (if a0 > 10 then (some 0) else ((some (([6, 5, 8, 7, 10, 9] : List Int) : List Int)).bind fun y199 => (if 0 ≤ (wrap64 (a0 - 5)) then (if (wrap64 (a0 - 5)) < (y199.length : Int) then (some (rd y199 (wrap64 (a0 - 5)))) else (none)) else (none))))) = some r := h
 clear h
 by_cases c2 : a0 < 5
 ·rw [if_pos c2] at H
  have c2b0 : decide (a0 < 5) = true := decide_eq_true c2
  clear c2
  obtain rfl := Option.some.inj H
  go_enter Try.func38, Try.ntmps38
  go_wp2
  go_ret
  exact ⟨by first | rfl | (simp [ql, qm] <;> rfl) | (simp [*, ql, qm] <;> rfl), by repeat (first | (with_reducible first | exact HB.out | apply qe | apply qc | apply qd) | exact HB.out)⟩
 ·rw [if_neg c2] at H
  have c2b0 : decide (a0 < 5) = false := decide_eq_false c2
  clear c2
  by_cases c3 : a0 > 10
  ·rw [if_pos c3] at H
   have c3b0 : decide (10 < a0) = true := decide_eq_true c3
   clear c3
   obtain rfl := Option.some.inj H
   go_enter Try.func38, Try.ntmps38
   go_wp2
   go_ret
   exact ⟨by first | rfl | (simp [ql, qm] <;> rfl) | (simp [*, ql, qm] <;> rfl), by repeat (first | (with_reducible first | exact HB.out | apply qe | apply qc | apply qd) | exact HB.out)⟩
  ·rw [if_neg c3] at H
   have c3b0 : decide (10 < a0) = false := decide_eq_false c3
   clear c3
   obtain ⟨y199, hy199⟩ : ∃ y_ : List Int, y_ = (([6, 5, 8, 7, 10, 9] : List Int)) := ⟨_, rfl⟩
   replace H : (if 0 ≤ (wrap64 (a0 - 5)) then (if (wrap64 (a0 - 5)) < (y199.length : Int) then (some (rd y199 (wrap64 (a0 - 5)))) else (none)) else (none)) = some r := by first | (rw [hy199]; with_reducible exact H) | (have H2_ := (Option.bind_some _ _).symm.trans H; rw [hy199]; with_reducible exact H2_) | (have H2_ := (Option.bind_some _ _).symm.trans H; with_reducible exact H2_) | with_reducible exact H | (rw [hy199]; exact H) | exact H
   have Ny199 := Aside0.mk hy199
   clear hy199
   obtain ⟨ji4, hji4⟩ : ∃ j_ : Int, (wrap64 (a0 - 5)) = j_ := ⟨_, rfl⟩
   replace H : (if 0 ≤ (ji4) then (if (ji4) < (y199.length : Int) then (some (rd y199 (ji4))) else (none)) else (none)) = some r := by first | (rw [hji4] at H; exact H) | (simp only [hji4] at H ⊢; exact H)
   have hji4w : (IntKind.i64.wrap (a0 - 5)) = ji4 := (i64_w _).trans hji4
   by_cases c5 : 0 ≤ (ji4)
   ·rw [if_pos c5] at H
    have c5b0 : decide (0 ≤ (ji4)) = true := decide_eq_true c5
    clear c5
    by_cases c6 : (ji4) < (y199.length : Int)
    ·rw [if_pos c6] at H
     have c6b0 : decide ((ji4) < (y199.length : Int)) = true := decide_eq_true c6
     clear c6
     obtain rfl := Option.some.inj H
     go_enter Try.func38, Try.ntmps38
     go_wp2_with (first | ((with_reducible refine qB (N := 9) rfl ?_); refine Kd.R_lit (Kd.int .i64) _ 3 ?hg (N := 9) ?hd (xs := ([6, 5, 8, 7, 10, 9] : List Int)) (inner := [.int .i64 6, .int .i64 5, .int .i64 8, .int .i64 7, .int .i64 10, .int .i64 9]) (ok := fun _ => True) (okp := fun _ => True) ?hr ?hp (fun _ hk => hk) trivial (Below.refl _ _) (Nat.le_refl _) (by simp) ?_; (case hd => rfl); (case hg => rfl); (case hr => first | (go_simp; done) | (go_simp; rfl)); (case hp => exact (Reps.one (show Kd.M (Kd.int .i64) _ _ _ 6 [.int .i64 6] from rfl) (Reps.one (show Kd.M (Kd.int .i64) _ _ _ 5 [.int .i64 5] from rfl) (Reps.one (show Kd.M (Kd.int .i64) _ _ _ 8 [.int .i64 8] from rfl) (Reps.one (show Kd.M (Kd.int .i64) _ _ _ 7 [.int .i64 7] from rfl) (Reps.one (show Kd.M (Kd.int .i64) _ _ _ 10 [.int .i64 10] from rfl) (Reps.one (show Kd.M (Kd.int .i64) _ _ _ 9 [.int .i64 9] from rfl) (Reps.none _ _)))))))); intro v200 w7 ho8 hb hg_ hnew_; clear hg_ hnew_; (first | rw [← Ny199.out] at ho8 | (simp only [Int.reduceToNat] at ho8; rw [← Ny199.out] at ho8)); have n0_ := Aside0.mk (Kd.R_lower ho8 (qr (by repeat (first | (with_reducible first | exact HB.out | apply qe | apply qc | apply qd) | exact HB.out)))); have n1_ := Aside0.mk (qq (by repeat (first | (with_reducible first | exact HB.out | apply qe | apply qc | apply qd) | exact HB.out)) hb); clear HB; have HO201 := n0_; have HB := n1_; clear n0_ n1_; clear hb ho8; obtain ⟨Ao9, co9, eo9⟩ := Kd.R_slice HO201.out; subst eo9; have p202 : 0 ≤ ((ji4) : Int) := of_decide_eq_true (by assumption); have q202 : (ji4) < (y199.length : Int) := of_decide_eq_true (by assumption); obtain ⟨ad202, e202, hx202_0⟩ := Kd.at_int (Kd.R_reads' HO201.out).2.2 (ji4) p202 q202; cases e202; replace p202 := eq_true p202; replace q202 := eq_true q202))
     go_ret
     exact ⟨by first | rfl | (simp [ql, qm] <;> rfl) | (simp only [← hji4]; first | rfl | (simp [ql, qm] <;> rfl)) | (simp [*, ql, qm] <;> rfl), by repeat (first | (with_reducible first | exact HB.out | apply qe | apply qc | apply qd) | exact HB.out)⟩
    ·rw [if_neg c6] at H
     exact absurd H (by simp)
   ·rw [if_neg c5] at H
    exact absurd H (by simp)

def mimesisref01_Signed.f (a0 : Int) : Option (Int) := if a0 ≥ 2147483648 then (some (wrap64 ((wrap64 (a0)) - 4294967296))) else (some (wrap64 (a0)))
set_option maxHeartbeats 8000000 in
set_option maxRecDepth 100000 in
theorem mimesisref01_Signed.calls (a0 : Int) (r : Int) (w : World) (h : mimesisref01_Signed.f a0 = some r) :
  Calls Try.prog 78 #[.int .u32 a0] w fun e w' => e = .returned (.int .i64 r) ∧ Drawn0 w w' := by
 have H : (if a0 ≥ 2147483648 then (some (wrap64 ((wrap64 (a0)) - 4294967296))) else (some (wrap64 (a0)))) = some r := h
 clear h
 by_cases c2 : a0 ≥ 2147483648
 ·rw [if_pos c2] at H
  have c2b0 : decide (2147483648 ≤ a0) = true := decide_eq_true c2
  clear c2
  obtain rfl := Option.some.inj H
  go_enter Try.func78, Try.ntmps78
  go_wp2
  go_ret
  exact ⟨by first | rfl | (simp; done) | (simp [*]; done), by repeat (first | exact Drawn0.refl _ | apply Drawn0.step)⟩
 ·rw [if_neg c2] at H
  have c2b0 : decide (2147483648 ≤ a0) = false := decide_eq_false c2
  clear c2
  obtain rfl := Option.some.inj H
  go_enter Try.func78, Try.ntmps78
  go_wp2
  go_ret
  exact ⟨by first | rfl | (simp; done) | (simp [*]; done), by repeat (first | exact Drawn0.refl _ | apply Drawn0.step)⟩

def mimesisref07_Taken.f (a0 : Int) (a1 : Int) (a2 : Int) : Option (Bool) := (mimesisref01_Signed.f a1).bind fun t203 => ((mimesisref01_Signed.f a2).bind fun t204 => (if a0 = 5 then (some (t203 == t204)) else (if a0 = 6 then (some (t203 != t204)) else (if a0 = 7 then (some (decide (t203 < t204))) else (if a0 = 8 then (some (decide (t203 ≥ t204))) else (if a0 = 9 then (some (decide ((wrap64 (a1)) < (wrap64 (a2))))) else (some (decide ((wrap64 (a1)) ≥ (wrap64 (a2)))))))))))
set_option maxHeartbeats 8000000 in
set_option maxRecDepth 100000 in
theorem mimesisref07_Taken.calls (a0 : Int) (a1 : Int) (a2 : Int) (r : Bool) (w : World) (h : mimesisref07_Taken.f a0 a1 a2 = some r) :
  Calls Try.prog 39 #[.int .i64 a0, .int .u32 a1, .int .u32 a2] w fun e w' => e = .returned (.bool r) ∧ Drawn0 w w' := by
 have H : ((mimesisref01_Signed.f a1).bind fun t203 => ((mimesisref01_Signed.f a2).bind fun t204 => (if a0 = 5 then (some (t203 == t204)) else (if a0 = 6 then (some (t203 != t204)) else (if a0 = 7 then (some (decide (t203 < t204))) else (if a0 = 8 then (some (decide (t203 ≥ t204))) else (if a0 = 9 then (some (decide ((wrap64 (a1)) < (wrap64 (a2))))) else (some (decide ((wrap64 (a1)) ≥ (wrap64 (a2)))))))))))) = some r := h
 clear h
 replace H := Option.bind_eq_some_iff.mp H
 obtain ⟨t203, A40, H⟩ := H
 replace H : ((mimesisref01_Signed.f a2).bind fun t204 => (if a0 = 5 then (some (t203 == t204)) else (if a0 = 6 then (some (t203 != t204)) else (if a0 = 7 then (some (decide (t203 < t204))) else (if a0 = 8 then (some (decide (t203 ≥ t204))) else (if a0 = 9 then (some (decide ((wrap64 (a1)) < (wrap64 (a2))))) else (some (decide ((wrap64 (a1)) ≥ (wrap64 (a2))))))))))) = some r := H
 have A4 := Aside0.mk A40
 clear A40
 replace H := Option.bind_eq_some_iff.mp H
 obtain ⟨t204, A50, H⟩ := H
 replace H : (if a0 = 5 then (some (t203 == t204)) else (if a0 = 6 then (some (t203 != t204)) else (if a0 = 7 then (some (decide (t203 < t204))) else (if a0 = 8 then (some (decide (t203 ≥ t204))) else (if a0 = 9 then (some (decide ((wrap64 (a1)) < (wrap64 (a2))))) else (some (decide ((wrap64 (a1)) ≥ (wrap64 (a2)))))))))) = some r := H
 have A5 := Aside0.mk A50
 clear A50
 by_cases c6 : a0 = 5
 ·rw [if_pos c6] at H
  have c6b0 : (a0 == 5) = true := beq_iff_eq.mpr c6
  have c6b1 : (a0 != 5) = false := bne_eq_false_iff_eq.mpr c6
  clear c6
  obtain rfl := Option.some.inj H
  go_enter Try.func39, Try.ntmps39
  go_wp2_with (first | ((with_reducible refine qw (f := 78) rfl ?_); refine qN (some 10) rfl rfl Try.func78 (by kernel_rfl) rfl #[.int .u32 a1] rfl (by (try simp only [List.map_toArray, List.map_cons, List.map_nil]); first | done | rfl | (simp only [List.length_drop, List.length_take]; rfl)) ?_; (with_reducible refine (mimesisref01_Signed.calls a1 t203 _ A4.out).mono ?_); rintro e w' ⟨rfl, ⟨nd, rfl⟩⟩; refine ⟨_, rfl, ?_⟩) | ((with_reducible refine qw (f := 78) rfl ?_); refine qN (some 12) rfl rfl Try.func78 (by kernel_rfl) rfl #[.int .u32 a2] rfl (by (try simp only [List.map_toArray, List.map_cons, List.map_nil]); first | done | rfl | (simp only [List.length_drop, List.length_take]; rfl)) ?_; (with_reducible refine (mimesisref01_Signed.calls a2 t204 _ A5.out).mono ?_); rintro e w' ⟨rfl, ⟨nd, rfl⟩⟩; refine ⟨_, rfl, ?_⟩))
  go_ret
  exact ⟨by first | rfl | (simp; done) | (simp [*]; done), by repeat (first | exact Drawn0.refl _ | apply Drawn0.step)⟩
 ·rw [if_neg c6] at H
  have c6b0 : (a0 == 5) = false := beq_eq_false_iff_ne.mpr c6
  have c6b1 : (a0 != 5) = true := bne_iff_ne.mpr c6
  by_cases c7 : a0 = 6
  ·rw [if_pos c7] at H
   have c7b0 : (a0 == 6) = true := beq_iff_eq.mpr c7
   have c7b1 : (a0 != 6) = false := bne_eq_false_iff_eq.mpr c7
   clear c7
   obtain rfl := Option.some.inj H
   go_enter Try.func39, Try.ntmps39
   go_wp2_with (first | ((with_reducible refine qw (f := 78) rfl ?_); refine qN (some 10) rfl rfl Try.func78 (by kernel_rfl) rfl #[.int .u32 a1] rfl (by (try simp only [List.map_toArray, List.map_cons, List.map_nil]); first | done | rfl | (simp only [List.length_drop, List.length_take]; rfl)) ?_; (with_reducible refine (mimesisref01_Signed.calls a1 t203 _ A4.out).mono ?_); rintro e w' ⟨rfl, ⟨nd, rfl⟩⟩; refine ⟨_, rfl, ?_⟩) | ((with_reducible refine qw (f := 78) rfl ?_); refine qN (some 12) rfl rfl Try.func78 (by kernel_rfl) rfl #[.int .u32 a2] rfl (by (try simp only [List.map_toArray, List.map_cons, List.map_nil]); first | done | rfl | (simp only [List.length_drop, List.length_take]; rfl)) ?_; (with_reducible refine (mimesisref01_Signed.calls a2 t204 _ A5.out).mono ?_); rintro e w' ⟨rfl, ⟨nd, rfl⟩⟩; refine ⟨_, rfl, ?_⟩))
   go_ret
   exact ⟨by first | rfl | (simp; done) | (simp [*]; done), by repeat (first | exact Drawn0.refl _ | apply Drawn0.step)⟩
  ·rw [if_neg c7] at H
   have c7b0 : (a0 == 6) = false := beq_eq_false_iff_ne.mpr c7
   have c7b1 : (a0 != 6) = true := bne_iff_ne.mpr c7
   by_cases c8 : a0 = 7
   ·rw [if_pos c8] at H
    have c8b0 : (a0 == 7) = true := beq_iff_eq.mpr c8
    have c8b1 : (a0 != 7) = false := bne_eq_false_iff_eq.mpr c8
    clear c8
    obtain rfl := Option.some.inj H
    go_enter Try.func39, Try.ntmps39
    go_wp2_with (first | ((with_reducible refine qw (f := 78) rfl ?_); refine qN (some 10) rfl rfl Try.func78 (by kernel_rfl) rfl #[.int .u32 a1] rfl (by (try simp only [List.map_toArray, List.map_cons, List.map_nil]); first | done | rfl | (simp only [List.length_drop, List.length_take]; rfl)) ?_; (with_reducible refine (mimesisref01_Signed.calls a1 t203 _ A4.out).mono ?_); rintro e w' ⟨rfl, ⟨nd, rfl⟩⟩; refine ⟨_, rfl, ?_⟩) | ((with_reducible refine qw (f := 78) rfl ?_); refine qN (some 12) rfl rfl Try.func78 (by kernel_rfl) rfl #[.int .u32 a2] rfl (by (try simp only [List.map_toArray, List.map_cons, List.map_nil]); first | done | rfl | (simp only [List.length_drop, List.length_take]; rfl)) ?_; (with_reducible refine (mimesisref01_Signed.calls a2 t204 _ A5.out).mono ?_); rintro e w' ⟨rfl, ⟨nd, rfl⟩⟩; refine ⟨_, rfl, ?_⟩))
    go_ret
    exact ⟨by first | rfl | (simp; done) | (simp [*]; done), by repeat (first | exact Drawn0.refl _ | apply Drawn0.step)⟩
   ·rw [if_neg c8] at H
    have c8b0 : (a0 == 7) = false := beq_eq_false_iff_ne.mpr c8
    have c8b1 : (a0 != 7) = true := bne_iff_ne.mpr c8
    by_cases c9 : a0 = 8
    ·rw [if_pos c9] at H
     have c9b0 : (a0 == 8) = true := beq_iff_eq.mpr c9
     have c9b1 : (a0 != 8) = false := bne_eq_false_iff_eq.mpr c9
     clear c9
     obtain rfl := Option.some.inj H
     go_enter Try.func39, Try.ntmps39
     go_wp2_with (first | ((with_reducible refine qw (f := 78) rfl ?_); refine qN (some 10) rfl rfl Try.func78 (by kernel_rfl) rfl #[.int .u32 a1] rfl (by (try simp only [List.map_toArray, List.map_cons, List.map_nil]); first | done | rfl | (simp only [List.length_drop, List.length_take]; rfl)) ?_; (with_reducible refine (mimesisref01_Signed.calls a1 t203 _ A4.out).mono ?_); rintro e w' ⟨rfl, ⟨nd, rfl⟩⟩; refine ⟨_, rfl, ?_⟩) | ((with_reducible refine qw (f := 78) rfl ?_); refine qN (some 12) rfl rfl Try.func78 (by kernel_rfl) rfl #[.int .u32 a2] rfl (by (try simp only [List.map_toArray, List.map_cons, List.map_nil]); first | done | rfl | (simp only [List.length_drop, List.length_take]; rfl)) ?_; (with_reducible refine (mimesisref01_Signed.calls a2 t204 _ A5.out).mono ?_); rintro e w' ⟨rfl, ⟨nd, rfl⟩⟩; refine ⟨_, rfl, ?_⟩))
     go_ret
     exact ⟨by first | rfl | (simp; done) | (simp [*]; done), by repeat (first | exact Drawn0.refl _ | apply Drawn0.step)⟩
    ·rw [if_neg c9] at H
     have c9b0 : (a0 == 8) = false := beq_eq_false_iff_ne.mpr c9
     have c9b1 : (a0 != 8) = true := bne_iff_ne.mpr c9
     by_cases c10 : a0 = 9
     ·rw [if_pos c10] at H
      have c10b0 : (a0 == 9) = true := beq_iff_eq.mpr c10
      have c10b1 : (a0 != 9) = false := bne_eq_false_iff_eq.mpr c10
      clear c10
      obtain rfl := Option.some.inj H
      go_enter Try.func39, Try.ntmps39
      go_wp2_with (first | ((with_reducible refine qw (f := 78) rfl ?_); refine qN (some 10) rfl rfl Try.func78 (by kernel_rfl) rfl #[.int .u32 a1] rfl (by (try simp only [List.map_toArray, List.map_cons, List.map_nil]); first | done | rfl | (simp only [List.length_drop, List.length_take]; rfl)) ?_; (with_reducible refine (mimesisref01_Signed.calls a1 t203 _ A4.out).mono ?_); rintro e w' ⟨rfl, ⟨nd, rfl⟩⟩; refine ⟨_, rfl, ?_⟩) | ((with_reducible refine qw (f := 78) rfl ?_); refine qN (some 12) rfl rfl Try.func78 (by kernel_rfl) rfl #[.int .u32 a2] rfl (by (try simp only [List.map_toArray, List.map_cons, List.map_nil]); first | done | rfl | (simp only [List.length_drop, List.length_take]; rfl)) ?_; (with_reducible refine (mimesisref01_Signed.calls a2 t204 _ A5.out).mono ?_); rintro e w' ⟨rfl, ⟨nd, rfl⟩⟩; refine ⟨_, rfl, ?_⟩))
      go_ret
      exact ⟨by first | rfl | (simp; done) | (simp [*]; done), by repeat (first | exact Drawn0.refl _ | apply Drawn0.step)⟩
     ·rw [if_neg c10] at H
      have c10b0 : (a0 == 9) = false := beq_eq_false_iff_ne.mpr c10
      have c10b1 : (a0 != 9) = true := bne_iff_ne.mpr c10
      obtain rfl := Option.some.inj H
      go_enter Try.func39, Try.ntmps39
      go_wp2_with (first | ((with_reducible refine qw (f := 78) rfl ?_); refine qN (some 10) rfl rfl Try.func78 (by kernel_rfl) rfl #[.int .u32 a1] rfl (by (try simp only [List.map_toArray, List.map_cons, List.map_nil]); first | done | rfl | (simp only [List.length_drop, List.length_take]; rfl)) ?_; (with_reducible refine (mimesisref01_Signed.calls a1 t203 _ A4.out).mono ?_); rintro e w' ⟨rfl, ⟨nd, rfl⟩⟩; refine ⟨_, rfl, ?_⟩) | ((with_reducible refine qw (f := 78) rfl ?_); refine qN (some 12) rfl rfl Try.func78 (by kernel_rfl) rfl #[.int .u32 a2] rfl (by (try simp only [List.map_toArray, List.map_cons, List.map_nil]); first | done | rfl | (simp only [List.length_drop, List.length_take]; rfl)) ?_; (with_reducible refine (mimesisref01_Signed.calls a2 t204 _ A5.out).mono ?_); rintro e w' ⟨rfl, ⟨nd, rfl⟩⟩; refine ⟨_, rfl, ?_⟩))
      go_ret
      exact ⟨by first | rfl | (simp; done) | (simp [*]; done), by repeat (first | exact Drawn0.refl _ | apply Drawn0.step)⟩

-- NOT PRINTED: function 79 (mimesisref31_known)

mutual
def mimesislaw31_light.j0 : Nat → Bool → List Int → List (S62) → List (S65) → Int → Option (Bool)
 | 0, _, _, _, _, _ => none
 | k + 1, x19, x173000, x173001, x173002, x173003 => if x19 = true then (some false) else (mimesislaw31_light.l0 k 0 x173000 x173001 x173002 x173003)
def mimesislaw31_light.l0 : Nat → Int → List Int → List (S62) → List (S65) → Int → Option (Bool)
 | 0, _, _, _, _, _ => none
 | k + 1, x3, x173000, x173001, x173002, x173003 => if x3 < (x173002.length : Int) then (if 0 ≤ x3 then (if (((qj x173002 x3).f4).length : Int) > 100 then (some false) else (mimesislaw31_light.l0 k (wrap64 (x3 + 1)) x173000 x173001 x173002 x173003)) else (none)) else (some true)
end
def mimesislaw31_light.f (k : Nat) (l0_0 : List Int) (l0_1 : List (S62)) (l0_2 : List (S65)) (a0_3 : Int) : Option (Bool) := if (l0_0.length : Int) > 100 then (mimesislaw31_light.j0 k true l0_0 l0_1 l0_2 a0_3) else (if (l0_1.length : Int) > 600 then (mimesislaw31_light.j0 k true l0_0 l0_1 l0_2 a0_3) else (mimesislaw31_light.j0 k (decide ((l0_2.length : Int) > 200)) l0_0 l0_1 l0_2 a0_3))
set_option maxHeartbeats 8000000 in
set_option maxRecDepth 100000 in
theorem mimesislaw31_light.calls (k : Nat) (A0_0 : Option Addr) (c0_0 : Nat) (l0_0 : List Int) (A0_1 : Option Addr) (c0_1 : Nat) (l0_1 : List (S62)) (A0_2 : Option Addr) (c0_2 : Nat) (l0_2 : List (S65)) (a0_3 : Int) (r : Bool) (w : World) (hr0_0 : Kd.C (Kd.int .u32) w A0_0 l0_0.length l0_0) (hc0_0 : l0_0.length ≤ c0_0) (hr0_1 : Kd.C k62 w A0_1 l0_1.length l0_1) (hc0_1 : l0_1.length ≤ c0_1) (hr0_2 : Kd.C k65 w A0_2 l0_2.length l0_2) (hc0_2 : l0_2.length ≤ c0_2) (h : mimesislaw31_light.f k l0_0 l0_1 l0_2 a0_3 = some r) :
  Calls Try.prog 34 #[.agg #[.slice A0_0 l0_0.length c0_0, .slice A0_1 l0_1.length c0_1, .slice A0_2 l0_2.length c0_2, .int .i64 a0_3]] w fun e w' => e = .returned (.bool r) ∧ Below w.heap.size w w' := by
 have hu26 := Try.underlying26
 have HR0_0 := Aside0.mk hr0_0
 have HC0_0 := Aside0.mk hc0_0
 clear hr0_0 hc0_0
 have HR0_1 := Aside0.mk hr0_1
 have HC0_1 := Aside0.mk hc0_1
 clear hr0_1 hc0_1
 have HR0_2 := Aside0.mk hr0_2
 have HC0_2 := Aside0.mk hc0_2
 clear hr0_2 hc0_2
 have HB := Aside0.mk (Below.refl w.heap.size w)
 have H : (if (l0_0.length : Int) > 100 then (mimesislaw31_light.j0 k true l0_0 l0_1 l0_2 a0_3) else (if (l0_1.length : Int) > 600 then (mimesislaw31_light.j0 k true l0_0 l0_1 l0_2 a0_3) else (mimesislaw31_light.j0 k (decide ((l0_2.length : Int) > 200)) l0_0 l0_1 l0_2 a0_3))) = some r := h
 clear h
 have HC2 := Aside0.mk H
 clear H
 go_enter Try.func34, Try.ntmps34
 go_upto_region 1 with (first | ((with_reducible refine qB (N := 1) rfl ?_); (try (refine qP (by rfl) ?_; dsimp only)); refine qA ?hg (N := 1) ?hd (cs := #[.slice A0_0 l0_0.length c0_0, .slice A0_1 l0_1.length c0_1, .slice A0_2 l0_2.length c0_2, .int .i64 a0_3]) (t := 26) ?hr ?_; (case hd => rfl); (case hg => rfl); (case hr => first | (go_simp; done) | (go_simp; rfl)); intro gb172 hg w3 hbox hb; have n0_ := Aside0.mk (qq (by repeat (first | (with_reducible first | exact HB.out | apply qe | apply qc | apply qd) | exact HB.out)) hb); have n1_ := Aside0.mk (hbox); have n2_ := Aside0.mk ((by rw [hg]; exact (qr (by repeat (first | (with_reducible first | exact HB.out | apply qe | apply qc | apply qd) | exact HB.out))) : w.heap.size ≤ gb172)); have n3_ := Aside0.mk ((by rw [hg]; exact (qr (by repeat (first | (with_reducible first | exact HB.out | apply qe | apply qc | apply qd) | exact HB.out))) : w.heap.size ≤ gb172)); clear HB; have HB := n0_; have BK172 := n1_; have GW172 := n2_; have GE172 := n3_; clear n0_ n1_ n2_ n3_; clear hb hbox hg))
 (try simp only [Act.put, List.setIfInBounds_toArray, List.set_cons_zero, List.set_cons_succ])
 go_cut [19] (fun v19 wc => ∃ (kq : Nat) (x19_1 : Bool), v19 = .bool x19_1 ∧ Aside0 (mimesislaw31_light.j0 kq x19_1 l0_0 l0_1 l0_2 a0_3 = some r) ∧ Aside0 (kq ≤ k) ∧ Aside0 (wc.heap[gb172]? = some (.cells #[(.slice A0_0 l0_0.length c0_0), (.slice A0_1 l0_1.length c0_1), (.slice A0_2 l0_2.length c0_2), .int .i64 a0_3] 26 (0, 0))) ∧ Aside0 (Below w.heap.size w wc))
 case first =>
  have H := HC2.out
  clear HC2
  by_cases c4 : (l0_0.length : Int) > 100
  ·rw [if_pos c4] at H
   have c4b0 : decide (100 < (l0_0.length : Int)) = true := decide_eq_true c4
   have c4b1 : decide (100 < l0_0.length) = true := decide_eq_true (by omega)
   clear c4
   (first | rw [c4b0] | (simp only [i64_w, i32_w]; rw [c4b0]) | skip)
   have H' := Aside0.mk H
   clear H
   have hcz5_0 : w3.cell? ⟨gb172, 0, none⟩ = some (.slice A0_0 l0_0.length c0_0) := (qb BK172.out 0).trans rfl
   have hcz5_1 : w3.cell? ⟨gb172, 1, none⟩ = some (.slice A0_1 l0_1.length c0_1) := (qb BK172.out 1).trans rfl
   have hcz5_2 : w3.cell? ⟨gb172, 2, none⟩ = some (.slice A0_2 l0_2.length c0_2) := (qb BK172.out 2).trans rfl
   have hcz5_3 : w3.cell? ⟨gb172, 3, none⟩ = some (.int .i64 a0_3) := (qb BK172.out 3).trans rfl
   have hfz5_0 := qa BK172.out 0
   have hfz5_1 := qa BK172.out 1
   have hfz5_2 := qa BK172.out 2
   have hfz5_3 := qa BK172.out 3
   go_wp2
   go_meet
   case rel => exact ⟨_, (true), (by first | rfl | (simp; done) | (simp [*]; done)), H', ⟨by first | omega | exact Nat.le_refl _⟩, ⟨by (with_reducible repeat (first | refine qg ?_ _ | refine qi ?_ | refine qf ?_ _)); exact BK172.out⟩, ⟨by repeat (first | (with_reducible first | exact HB.out | apply qe | apply qc | apply qd | refine qh ?_ GE172.out) | exact HB.out)⟩⟩
  ·rw [if_neg c4] at H
   have c4b0 : decide (100 < (l0_0.length : Int)) = false := decide_eq_false c4
   have c4b1 : decide (100 < l0_0.length) = false := decide_eq_false (by omega)
   clear c4
   (first | rw [c4b0] | (simp only [i64_w, i32_w]; rw [c4b0]) | skip)
   by_cases c6 : (l0_1.length : Int) > 600
   ·rw [if_pos c6] at H
    have c6b0 : decide (600 < (l0_1.length : Int)) = true := decide_eq_true c6
    have c6b1 : decide (600 < l0_1.length) = true := decide_eq_true (by omega)
    clear c6
    have H' := Aside0.mk H
    clear H
    have hcz7_0 : w3.cell? ⟨gb172, 0, none⟩ = some (.slice A0_0 l0_0.length c0_0) := (qb BK172.out 0).trans rfl
    have hcz7_1 : w3.cell? ⟨gb172, 1, none⟩ = some (.slice A0_1 l0_1.length c0_1) := (qb BK172.out 1).trans rfl
    have hcz7_2 : w3.cell? ⟨gb172, 2, none⟩ = some (.slice A0_2 l0_2.length c0_2) := (qb BK172.out 2).trans rfl
    have hcz7_3 : w3.cell? ⟨gb172, 3, none⟩ = some (.int .i64 a0_3) := (qb BK172.out 3).trans rfl
    have hfz7_0 := qa BK172.out 0
    have hfz7_1 := qa BK172.out 1
    have hfz7_2 := qa BK172.out 2
    have hfz7_3 := qa BK172.out 3
    go_wp2
    go_meet
    case rel => exact ⟨_, (true), (by first | rfl | (simp; done) | (simp [*]; done)), H', ⟨by first | omega | exact Nat.le_refl _⟩, ⟨by (with_reducible repeat (first | refine qg ?_ _ | refine qi ?_ | refine qf ?_ _)); exact BK172.out⟩, ⟨by repeat (first | (with_reducible first | exact HB.out | apply qe | apply qc | apply qd | refine qh ?_ GE172.out) | exact HB.out)⟩⟩
   ·rw [if_neg c6] at H
    have c6b0 : decide (600 < (l0_1.length : Int)) = false := decide_eq_false c6
    have c6b1 : decide (600 < l0_1.length) = false := decide_eq_false (by omega)
    clear c6
    have H' := Aside0.mk H
    clear H
    have hcz8_0 : w3.cell? ⟨gb172, 0, none⟩ = some (.slice A0_0 l0_0.length c0_0) := (qb BK172.out 0).trans rfl
    have hcz8_1 : w3.cell? ⟨gb172, 1, none⟩ = some (.slice A0_1 l0_1.length c0_1) := (qb BK172.out 1).trans rfl
    have hcz8_2 : w3.cell? ⟨gb172, 2, none⟩ = some (.slice A0_2 l0_2.length c0_2) := (qb BK172.out 2).trans rfl
    have hcz8_3 : w3.cell? ⟨gb172, 3, none⟩ = some (.int .i64 a0_3) := (qb BK172.out 3).trans rfl
    have hfz8_0 := qa BK172.out 0
    have hfz8_1 := qa BK172.out 1
    have hfz8_2 := qa BK172.out 2
    have hfz8_3 := qa BK172.out 3
    go_wp2
    go_meet
    case rel => exact ⟨_, (decide ((l0_2.length : Int) > 200)), (by first | rfl | (simp; done) | (simp [*]; done)), H', ⟨by first | omega | exact Nat.le_refl _⟩, ⟨by (with_reducible repeat (first | refine qg ?_ _ | refine qi ?_ | refine qf ?_ _)); exact BK172.out⟩, ⟨by repeat (first | (with_reducible first | exact HB.out | apply qe | apply qc | apply qd | refine qh ?_ GE172.out) | exact HB.out)⟩⟩
 case rest =>
  clear HC2
  try clear p2
  try clear c3
  try clear c4
  try clear c4b0
  try clear c4b1
  try clear c6
  try clear c6b0
  try clear c6b1
  try clear hcz5_0
  try clear hcz5_1
  try clear hcz5_2
  try clear hcz5_3
  try clear hcz7_0
  try clear hcz7_1
  try clear hcz7_2
  try clear hcz7_3
  try clear hcz8_0
  try clear hcz8_1
  try clear hcz8_2
  try clear hcz8_3
  try clear hfz5_0
  try clear hfz5_1
  try clear hfz5_2
  try clear hfz5_3
  try clear hfz7_0
  try clear hfz7_1
  try clear hfz7_2
  try clear hfz7_3
  try clear hfz8_0
  try clear hfz8_1
  try clear hfz8_2
  try clear hfz8_3
  obtain ⟨kq, x19_1, rfl, HA, HJ1, BK172, HB⟩ := hcut
  cases kq with
  | zero => exact absurd HA.out (by simp [mimesislaw31_light.j0])
  | succ kj1 =>
   have H := HA.out
   clear HA
   simp only [mimesislaw31_light.j0] at H
   by_cases c9 : x19_1 = true
   ·subst c9
    have H1 : (some false) = some r := by rw [if_pos rfl] at H; exact H
    clear H
    have H := H1
    clear H1
    obtain rfl := Option.some.inj H
    go_wp2
    go_ret
    exact ⟨by first | rfl | (simp [ql, qm] <;> rfl) | (simp [*, ql, qm] <;> rfl), by repeat (first | (with_reducible first | exact HB.out | apply qe | apply qc | apply qd | refine qh ?_ GE172.out) | exact HB.out)⟩
   ·replace c9 := Bool.eq_false_iff.mpr c9
    subst c9
    have H1 : (mimesislaw31_light.l0 kj1 0 l0_0 l0_1 l0_2 a0_3) = some r := by rw [if_neg (show ¬ (false = true) by decide)] at H; exact H
    clear H
    have H := H1
    clear H1
    have H' := Aside0.mk H
    clear H
    go_wp2
    go_loopg [3] kj1 (fun kq v3 w' => ∃ (x3_2 : Int), v3 = .int .i64 x3_2 ∧ Aside0 (mimesislaw31_light.l0 kq x3_2 l0_0 l0_1 l0_2 a0_3 = some r) ∧ Aside0 (kq ≤ kj1) ∧ Aside0 (w'.heap[gb172]? = some (.cells #[(.slice A0_0 l0_0.length c0_0), (.slice A0_1 l0_1.length c0_1), (.slice A0_2 l0_2.length c0_2), .int .i64 a0_3] 26 (0, 0))) ∧ Aside0 (Below w.heap.size w w'))
    case atStart => exact ⟨(0), (by first | rfl | (simp; done) | (simp [*]; done)), H', ⟨Nat.le_refl _⟩, ⟨by (with_reducible repeat (first | refine qg ?_ _ | refine qi ?_ | refine qf ?_ _)); exact BK172.out⟩, ⟨by repeat (first | (with_reducible first | exact HB.out | apply qe | apply qc | apply qd | refine qh ?_ GE172.out) | exact HB.out)⟩⟩
    case round =>
     clear H'
     try clear p2
     try clear c3
     try clear c4
     try clear c4b0
     try clear c4b1
     try clear c6
     try clear c6b0
     try clear c6b1
     try clear c9
     try clear hcz5_0
     try clear hcz5_1
     try clear hcz5_2
     try clear hcz5_3
     try clear hcz7_0
     try clear hcz7_1
     try clear hcz7_2
     try clear hcz7_3
     try clear hcz8_0
     try clear hcz8_1
     try clear hcz8_2
     try clear hcz8_3
     try clear hfz5_0
     try clear hfz5_1
     try clear hfz5_2
     try clear hfz5_3
     try clear hfz7_0
     try clear hfz7_1
     try clear hfz7_2
     try clear hfz7_3
     try clear hfz8_0
     try clear hfz8_1
     try clear hfz8_2
     try clear hfz8_3
     try clear p2
     obtain ⟨x3_2, rfl, HA, HK2, BK172, HB⟩ := hrel
     cases gk with
     | zero => exact absurd HA.out (by simp [mimesislaw31_light.l0])
     | succ k2 =>
      have H := HA.out
      clear HA
      simp only [mimesislaw31_light.l0] at H
      by_cases c10 : x3_2 < (l0_2.length : Int)
      ·rw [if_pos c10] at H
       have c10b0 : decide (x3_2 < (l0_2.length : Int)) = true := decide_eq_true c10
       clear c10
       by_cases c11 : 0 ≤ x3_2
       ·rw [if_pos c11] at H
        have c11b0 : decide (0 ≤ x3_2) = true := decide_eq_true c11
        clear c11
        by_cases c12 : (((qj l0_2 x3_2).f4).length : Int) > 100
        ·rw [if_pos c12] at H
         have c12b0 : decide (100 < (((qj l0_2 x3_2).f4).length : Int)) = true := decide_eq_true c12
         have c12b1 : decide (100 < ((qj l0_2 x3_2).f4).length) = true := decide_eq_true (by omega)
         clear c12
         obtain rfl := Option.some.inj H
         have hcz13_0 : wr.cell? ⟨gb172, 0, none⟩ = some (.slice A0_0 l0_0.length c0_0) := (qb BK172.out 0).trans rfl
         have hcz13_1 : wr.cell? ⟨gb172, 1, none⟩ = some (.slice A0_1 l0_1.length c0_1) := (qb BK172.out 1).trans rfl
         have hcz13_2 : wr.cell? ⟨gb172, 2, none⟩ = some (.slice A0_2 l0_2.length c0_2) := (qb BK172.out 2).trans rfl
         have hcz13_3 : wr.cell? ⟨gb172, 3, none⟩ = some (.int .i64 a0_3) := (qb BK172.out 3).trans rfl
         have hfz13_0 := qa BK172.out 0
         have hfz13_1 := qa BK172.out 1
         have hfz13_2 := qa BK172.out 2
         have hfz13_3 := qa BK172.out 3
         have p173 : 0 ≤ (x3_2 : Int) := of_decide_eq_true (by assumption)
         have q173 : x3_2 < (l0_2.length : Int) := of_decide_eq_true (by assumption)
         obtain ⟨ad173, A173_4, c173_4, e173, hx173_0, hx173_1, hx173_2, hx173_3, hx173_4, hl173_4, hi173_4⟩ := at_T65 HR0_2.out x3_2 p173 q173
         cases e173
         replace hx173_0 := (HB.out.cell (World.block_lt_of_cell? w _ hx173_0)).trans hx173_0
         replace hx173_1 := (HB.out.cell (World.block_lt_of_cell? w _ hx173_1)).trans hx173_1
         replace hx173_2 := (HB.out.cell (World.block_lt_of_cell? w _ hx173_2)).trans hx173_2
         replace hx173_3 := (HB.out.cell (World.block_lt_of_cell? w _ hx173_3)).trans hx173_3
         replace hx173_4 := (HB.out.cell (World.block_lt_of_cell? w _ hx173_4)).trans hx173_4
         have HR173_4 := Aside0.mk hi173_4
         have HC173_4 := Aside0.mk hl173_4
         clear hi173_4 hl173_4
         replace p173 := eq_true p173
         replace q173 := eq_true q173
         go_wp2
         go_ret
         exact ⟨by first | rfl | (simp [ql, qm] <;> rfl) | (simp [*, ql, qm] <;> rfl), by repeat (first | (with_reducible first | exact HB.out | apply qe | apply qc | apply qd | refine qh ?_ GE172.out) | exact HB.out)⟩
        ·rw [if_neg c12] at H
         have c12b0 : decide (100 < (((qj l0_2 x3_2).f4).length : Int)) = false := decide_eq_false c12
         have c12b1 : decide (100 < ((qj l0_2 x3_2).f4).length) = false := decide_eq_false (by omega)
         clear c12
         have H' := Aside0.mk H
         clear H
         have hcz14_0 : wr.cell? ⟨gb172, 0, none⟩ = some (.slice A0_0 l0_0.length c0_0) := (qb BK172.out 0).trans rfl
         have hcz14_1 : wr.cell? ⟨gb172, 1, none⟩ = some (.slice A0_1 l0_1.length c0_1) := (qb BK172.out 1).trans rfl
         have hcz14_2 : wr.cell? ⟨gb172, 2, none⟩ = some (.slice A0_2 l0_2.length c0_2) := (qb BK172.out 2).trans rfl
         have hcz14_3 : wr.cell? ⟨gb172, 3, none⟩ = some (.int .i64 a0_3) := (qb BK172.out 3).trans rfl
         have hfz14_0 := qa BK172.out 0
         have hfz14_1 := qa BK172.out 1
         have hfz14_2 := qa BK172.out 2
         have hfz14_3 := qa BK172.out 3
         have p173 : 0 ≤ (x3_2 : Int) := of_decide_eq_true (by assumption)
         have q173 : x3_2 < (l0_2.length : Int) := of_decide_eq_true (by assumption)
         obtain ⟨ad173, A173_4, c173_4, e173, hx173_0, hx173_1, hx173_2, hx173_3, hx173_4, hl173_4, hi173_4⟩ := at_T65 HR0_2.out x3_2 p173 q173
         cases e173
         replace hx173_0 := (HB.out.cell (World.block_lt_of_cell? w _ hx173_0)).trans hx173_0
         replace hx173_1 := (HB.out.cell (World.block_lt_of_cell? w _ hx173_1)).trans hx173_1
         replace hx173_2 := (HB.out.cell (World.block_lt_of_cell? w _ hx173_2)).trans hx173_2
         replace hx173_3 := (HB.out.cell (World.block_lt_of_cell? w _ hx173_3)).trans hx173_3
         replace hx173_4 := (HB.out.cell (World.block_lt_of_cell? w _ hx173_4)).trans hx173_4
         have HR173_4 := Aside0.mk hi173_4
         have HC173_4 := Aside0.mk hl173_4
         clear hi173_4 hl173_4
         replace p173 := eq_true p173
         replace q173 := eq_true q173
         go_wp2
         go_roundg k2
         case measure => have := HJ1.out; have := HK2.out; omega
         case rel => exact ⟨(wrap64 (x3_2 + 1)), (by first | rfl | (simp; done) | (simp [*]; done)), H', ⟨by have := HJ1.out; have := HK2.out; omega⟩, ⟨by (with_reducible repeat (first | refine qg ?_ _ | refine qi ?_ | refine qf ?_ _)); exact BK172.out⟩, ⟨by repeat (first | (with_reducible first | exact HB.out | apply qe | apply qc | apply qd | refine qh ?_ GE172.out) | exact HB.out)⟩⟩
       ·rw [if_neg c11] at H
        exact absurd H (by simp)
      ·rw [if_neg c10] at H
       have c10b0 : decide (x3_2 < (l0_2.length : Int)) = false := decide_eq_false c10
       clear c10
       obtain rfl := Option.some.inj H
       have hcz15_0 : wr.cell? ⟨gb172, 0, none⟩ = some (.slice A0_0 l0_0.length c0_0) := (qb BK172.out 0).trans rfl
       have hcz15_1 : wr.cell? ⟨gb172, 1, none⟩ = some (.slice A0_1 l0_1.length c0_1) := (qb BK172.out 1).trans rfl
       have hcz15_2 : wr.cell? ⟨gb172, 2, none⟩ = some (.slice A0_2 l0_2.length c0_2) := (qb BK172.out 2).trans rfl
       have hcz15_3 : wr.cell? ⟨gb172, 3, none⟩ = some (.int .i64 a0_3) := (qb BK172.out 3).trans rfl
       have hfz15_0 := qa BK172.out 0
       have hfz15_1 := qa BK172.out 1
       have hfz15_2 := qa BK172.out 2
       have hfz15_3 := qa BK172.out 3
       go_wp2
       go_ret
       exact ⟨by first | rfl | (simp [ql, qm] <;> rfl) | (simp [*, ql, qm] <;> rfl), by repeat (first | (with_reducible first | exact HB.out | apply qe | apply qc | apply qd | refine qh ?_ GE172.out) | exact HB.out)⟩

end Go.Proofs.Ythjgakoofmmloaa.PNumberDoes
