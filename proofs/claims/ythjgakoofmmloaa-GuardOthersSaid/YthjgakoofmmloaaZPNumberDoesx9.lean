/- Proved: contracts of single functions, and words for them, as the kit's print has printed them; names shortened. Conditions: those that each theorem names. -/
import Derived.Test.YthjgakoofmmloaaZPNumberDoesx0
import Derived.Test.YthjgakoofmmloaaZPNumberDoesx8
namespace Go.Proofs.Ythjgakoofmmloaa.PNumberDoes
open Go.RowKit Go.Proofs.YthjgakoofmmloaaW.PrintWords Go.Proofs.YthjgakoofmmloaaW.PrintLast Go.Proofs.YthjgakoofmmloaaW.PrintMore
attribute [local go_sem] max2_int min2_int max_two min_two qQ qR max_four min_four
set_option linter.unusedVariables false
set_option linter.unusedSimpArgs false

mutual
def inst_Loads.j0 : Nat → Int → Bool → Option (Int)
 | 0, _, _ => none
 | k + 1, x3, x4 => if x4 = true then (some 1) else (if x3 = 12 then (inst_Loads.j1 k x3 (x3 == 12)) else (inst_Loads.j1 k x3 (x3 == 15)))
def inst_Loads.j1 : Nat → Int → Bool → Option (Int)
 | 0, _, _ => none
 | k + 1, x3, x7 => if x7 = true then (some 2) else (if x3 = 13 then (some 4) else (some 0))
end
def inst_Loads.f (k : Nat) (a0 : Int) : Option (Int) := if a0 = 11 then (inst_Loads.j0 k a0 (a0 == 11)) else (inst_Loads.j0 k a0 (a0 == 14))
set_option maxHeartbeats 8000000 in
set_option maxRecDepth 100000 in
theorem inst_Loads.calls (k : Nat) (a0 : Int) (r : Int) (w : World) (h : inst_Loads.f k a0 = some r) :
  Calls Try.prog 149 #[.int .i64 a0] w fun e w' => e = .returned (.int .i64 r) ∧ Drawn0 w w' := by
 have H : (if a0 = 11 then (inst_Loads.j0 k a0 (a0 == 11)) else (inst_Loads.j0 k a0 (a0 == 14))) = some r := h
 clear h
 have HC2 := Aside0.mk H
 clear H
 go_enter Try.func149, Try.ntmps149
 go_upto_if 4 with (fail)
 go_cut [4] (fun v4 wc => ∃ (kq : Nat) (x4_1 : Bool), v4 = .bool x4_1 ∧ Aside0 (inst_Loads.j0 kq a0 x4_1 = some r) ∧ Aside0 (kq ≤ k) ∧ Drawn0 w wc)
 case first =>
  have H := HC2.out
  clear HC2
  by_cases c3 : a0 = 11
  ·rw [if_pos c3] at H
   have c3b0 : (a0 == 11) = true := beq_iff_eq.mpr c3
   have c3b1 : (a0 != 11) = false := bne_eq_false_iff_eq.mpr c3
   clear c3
   (first | rw [c3b0] | (simp only [i64_w, i32_w]; rw [c3b0]) | skip)
   have H' := Aside0.mk H
   clear H
   go_wp2
   go_meet
   case rel => exact ⟨_, ((a0 == 11)), (by first | rfl | (simp; done) | (simp [*]; done)), H', ⟨by first | omega | exact Nat.le_refl _⟩, by repeat (first | exact Drawn0.refl _ | apply Drawn0.step)⟩
  ·rw [if_neg c3] at H
   have c3b0 : (a0 == 11) = false := beq_eq_false_iff_ne.mpr c3
   have c3b1 : (a0 != 11) = true := bne_iff_ne.mpr c3
   (first | rw [c3b0] | (simp only [i64_w, i32_w]; rw [c3b0]) | skip)
   have H' := Aside0.mk H
   clear H
   go_wp2
   go_meet
   case rel => exact ⟨_, ((a0 == 14)), (by first | rfl | (simp; done) | (simp [*]; done)), H', ⟨by first | omega | exact Nat.le_refl _⟩, by repeat (first | exact Drawn0.refl _ | apply Drawn0.step)⟩
 case rest =>
  clear HC2
  try clear c1
  try clear p2
  try clear c3
  try clear c3b0
  try clear c3b1
  obtain ⟨kq, x4_1, rfl, HA, HJ1, ⟨mc1, rfl⟩⟩ := hcut
  cases kq with
  | zero => exact absurd HA.out (by simp [inst_Loads.j0])
  | succ kj1 =>
   have H := HA.out
   clear HA
   simp only [inst_Loads.j0] at H
   by_cases c4 : x4_1 = true
   ·subst c4
    have H1 : (some 1) = some r := by rw [if_pos rfl] at H; exact H
    clear H
    have H := H1
    clear H1
    obtain rfl := Option.some.inj H
    go_wp2
    go_ret
    exact ⟨by first | rfl | (simp; done) | (simp [*]; done), by repeat (first | exact Drawn0.refl _ | apply Drawn0.step)⟩
   ·replace c4 := Bool.eq_false_iff.mpr c4
    subst c4
    have H1 : (if a0 = 12 then (inst_Loads.j1 kj1 a0 (a0 == 12)) else (inst_Loads.j1 kj1 a0 (a0 == 15))) = some r := by rw [if_neg (show ¬ (false = true) by decide)] at H; exact H
    clear H
    have H := H1
    clear H1
    have HC5 := Aside0.mk H
    clear H
    go_upto_if 7 with (fail)
    go_cut [7] (fun v7 wc => ∃ (kq : Nat) (x7_4 : Bool), v7 = .bool x7_4 ∧ Aside0 (inst_Loads.j1 kq a0 x7_4 = some r) ∧ Aside0 (kq ≤ kj1) ∧ Drawn0 w wc)
    case first =>
     have H := HC5.out
     clear HC5
     by_cases c6 : a0 = 12
     ·rw [if_pos c6] at H
      have c6b0 : (a0 == 12) = true := beq_iff_eq.mpr c6
      have c6b1 : (a0 != 12) = false := bne_eq_false_iff_eq.mpr c6
      clear c6
      (first | rw [c6b0] | (simp only [i64_w, i32_w]; rw [c6b0]) | skip)
      have H' := Aside0.mk H
      clear H
      go_wp2
      go_meet
      case rel => exact ⟨_, ((a0 == 12)), (by first | rfl | (simp; done) | (simp [*]; done)), H', ⟨by have := HJ1.out; first | omega | exact Nat.le_refl _⟩, by repeat (first | exact Drawn0.refl _ | apply Drawn0.step)⟩
     ·rw [if_neg c6] at H
      have c6b0 : (a0 == 12) = false := beq_eq_false_iff_ne.mpr c6
      have c6b1 : (a0 != 12) = true := bne_iff_ne.mpr c6
      (first | rw [c6b0] | (simp only [i64_w, i32_w]; rw [c6b0]) | skip)
      have H' := Aside0.mk H
      clear H
      go_wp2
      go_meet
      case rel => exact ⟨_, ((a0 == 15)), (by first | rfl | (simp; done) | (simp [*]; done)), H', ⟨by have := HJ1.out; first | omega | exact Nat.le_refl _⟩, by repeat (first | exact Drawn0.refl _ | apply Drawn0.step)⟩
    case rest =>
     clear HC5
     try clear c1
     try clear p2
     try clear c3
     try clear c3b0
     try clear c3b1
     try clear c4
     try clear c6
     try clear c6b0
     try clear c6b1
     try clear p2
     obtain ⟨kq, x7_4, rfl, HA, HJ4, ⟨mc4, rfl⟩⟩ := hcut
     cases kq with
     | zero => exact absurd HA.out (by simp [inst_Loads.j1])
     | succ kj4 =>
      have H := HA.out
      clear HA
      simp only [inst_Loads.j1] at H
      by_cases c7 : x7_4 = true
      ·subst c7
       have H1 : (some 2) = some r := by rw [if_pos rfl] at H; exact H
       clear H
       have H := H1
       clear H1
       obtain rfl := Option.some.inj H
       go_wp2
       go_ret
       exact ⟨by first | rfl | (simp; done) | (simp [*]; done), by repeat (first | exact Drawn0.refl _ | apply Drawn0.step)⟩
      ·replace c7 := Bool.eq_false_iff.mpr c7
       subst c7
       have H1 : (if a0 = 13 then (some 4) else (some 0)) = some r := by rw [if_neg (show ¬ (false = true) by decide)] at H; exact H
       clear H
       have H := H1
       clear H1
       by_cases c8 : a0 = 13
       ·rw [if_pos c8] at H
        have c8b0 : (a0 == 13) = true := beq_iff_eq.mpr c8
        have c8b1 : (a0 != 13) = false := bne_eq_false_iff_eq.mpr c8
        clear c8
        obtain rfl := Option.some.inj H
        go_wp2
        go_ret
        exact ⟨by first | rfl | (simp; done) | (simp [*]; done), by repeat (first | exact Drawn0.refl _ | apply Drawn0.step)⟩
       ·rw [if_neg c8] at H
        have c8b0 : (a0 == 13) = false := beq_eq_false_iff_ne.mpr c8
        have c8b1 : (a0 != 13) = true := bne_iff_ne.mpr c8
        obtain rfl := Option.some.inj H
        go_wp2
        go_ret
        exact ⟨by first | rfl | (simp; done) | (simp [*]; done), by repeat (first | exact Drawn0.refl _ | apply Drawn0.step)⟩

def inst_Stores.f (a0 : Int) : Option (Int) := if a0 = 16 then (some 1) else (if a0 = 17 then (some 2) else (if a0 = 18 then (some 4) else (some 0)))
set_option maxHeartbeats 8000000 in
set_option maxRecDepth 100000 in
theorem inst_Stores.calls (a0 : Int) (r : Int) (w : World) (h : inst_Stores.f a0 = some r) :
  Calls Try.prog 150 #[.int .i64 a0] w fun e w' => e = .returned (.int .i64 r) ∧ Drawn0 w w' := by
 have H : (if a0 = 16 then (some 1) else (if a0 = 17 then (some 2) else (if a0 = 18 then (some 4) else (some 0)))) = some r := h
 clear h
 by_cases c2 : a0 = 16
 ·rw [if_pos c2] at H
  have c2b0 : (a0 == 16) = true := beq_iff_eq.mpr c2
  have c2b1 : (a0 != 16) = false := bne_eq_false_iff_eq.mpr c2
  clear c2
  obtain rfl := Option.some.inj H
  go_enter Try.func150, Try.ntmps150
  go_wp2
  go_ret
  exact ⟨by first | rfl | (simp; done) | (simp [*]; done), by repeat (first | exact Drawn0.refl _ | apply Drawn0.step)⟩
 ·rw [if_neg c2] at H
  have c2b0 : (a0 == 16) = false := beq_eq_false_iff_ne.mpr c2
  have c2b1 : (a0 != 16) = true := bne_iff_ne.mpr c2
  by_cases c3 : a0 = 17
  ·rw [if_pos c3] at H
   have c3b0 : (a0 == 17) = true := beq_iff_eq.mpr c3
   have c3b1 : (a0 != 17) = false := bne_eq_false_iff_eq.mpr c3
   clear c3
   obtain rfl := Option.some.inj H
   go_enter Try.func150, Try.ntmps150
   go_wp2
   go_ret
   exact ⟨by first | rfl | (simp; done) | (simp [*]; done), by repeat (first | exact Drawn0.refl _ | apply Drawn0.step)⟩
  ·rw [if_neg c3] at H
   have c3b0 : (a0 == 17) = false := beq_eq_false_iff_ne.mpr c3
   have c3b1 : (a0 != 17) = true := bne_iff_ne.mpr c3
   by_cases c4 : a0 = 18
   ·rw [if_pos c4] at H
    have c4b0 : (a0 == 18) = true := beq_iff_eq.mpr c4
    have c4b1 : (a0 != 18) = false := bne_eq_false_iff_eq.mpr c4
    clear c4
    obtain rfl := Option.some.inj H
    go_enter Try.func150, Try.ntmps150
    go_wp2
    go_ret
    exact ⟨by first | rfl | (simp; done) | (simp [*]; done), by repeat (first | exact Drawn0.refl _ | apply Drawn0.step)⟩
   ·rw [if_neg c4] at H
    have c4b0 : (a0 == 18) = false := beq_eq_false_iff_ne.mpr c4
    have c4b1 : (a0 != 18) = true := bne_iff_ne.mpr c4
    obtain rfl := Option.some.inj H
    go_enter Try.func150, Try.ntmps150
    go_wp2
    go_ret
    exact ⟨by first | rfl | (simp; done) | (simp [*]; done), by repeat (first | exact Drawn0.refl _ | apply Drawn0.step)⟩

def ir_kind.f (k : Nat) (a0_0 : Int) (a0_1 : Int) (a0_2 : Int) (a0_3 : Int) (a0_4 : Int) (a0_5 : Int) : Option (Bool) := if a0_0 = 1 then (if (wrap64 (a0_3)) ≥ 1 then (some (decide ((wrap64 (a0_3)) ≤ 31))) else (some false)) else (if a0_0 = 2 then (some true) else (if a0_0 = 3 then ((ir_Reckons.f (wrap64 (a0_3))).bind fun t184 => (some t184)) else (if a0_0 = 4 then ((inst_Loads.f k (wrap64 (a0_3))).bind fun t185 => (some (decide (t185 > 0)))) else (if a0_0 = 5 then ((inst_Stores.f (wrap64 (a0_3))).bind fun t186 => (some (decide (t186 > 0)))) else (if a0_0 = 6 then (if (wrap64 (a0_3)) ≥ 5 then (some (decide ((wrap64 (a0_3)) ≤ 10))) else (some false)) else (some false))))))
set_option maxHeartbeats 8000000 in
set_option maxRecDepth 100000 in
theorem ir_kind.calls (k : Nat) (a0_0 : Int) (a0_1 : Int) (a0_2 : Int) (a0_3 : Int) (a0_4 : Int) (a0_5 : Int) (r : Bool) (w : World) (h : ir_kind.f k a0_0 a0_1 a0_2 a0_3 a0_4 a0_5 = some r) :
  Calls Try.prog 133 #[.agg #[.int .i64 a0_0, .int .i64 a0_1, .int .i64 a0_2, .int .u32 a0_3, .int .i64 a0_4, .int .i64 a0_5]] w fun e w' => e = .returned (.bool r) ∧ Below w.heap.size w w' := by
 have hu67 := Try.underlying67
 have HB := Aside0.mk (Below.refl w.heap.size w)
 have H : (if a0_0 = 1 then (if (wrap64 (a0_3)) ≥ 1 then (some (decide ((wrap64 (a0_3)) ≤ 31))) else (some false)) else (if a0_0 = 2 then (some true) else (if a0_0 = 3 then ((ir_Reckons.f (wrap64 (a0_3))).bind fun t184 => (some t184)) else (if a0_0 = 4 then ((inst_Loads.f k (wrap64 (a0_3))).bind fun t185 => (some (decide (t185 > 0)))) else (if a0_0 = 5 then ((inst_Stores.f (wrap64 (a0_3))).bind fun t186 => (some (decide (t186 > 0)))) else (if a0_0 = 6 then (if (wrap64 (a0_3)) ≥ 5 then (some (decide ((wrap64 (a0_3)) ≤ 10))) else (some false)) else (some false))))))) = some r := h
 clear h
 by_cases c2 : a0_0 = 1
 ·rw [if_pos c2] at H
  have c2b0 : (a0_0 == 1) = true := beq_iff_eq.mpr c2
  have c2b1 : (a0_0 != 1) = false := bne_eq_false_iff_eq.mpr c2
  clear c2
  by_cases c3 : (wrap64 (a0_3)) ≥ 1
  ·rw [if_pos c3] at H
   have c3b0 : decide (1 ≤ (wrap64 (a0_3))) = true := decide_eq_true c3
   clear c3
   obtain rfl := Option.some.inj H
   go_enter Try.func133, Try.ntmps133
   go_wp2_with (first | ((with_reducible refine qB (N := 1) rfl ?_); refine qA ?hg (N := 1) ?hd (cs := #[.int .i64 a0_0, .int .i64 a0_1, .int .i64 a0_2, .int .u32 a0_3, .int .i64 a0_4, .int .i64 a0_5]) (t := 67) ?hr ?_; (case hd => rfl); (case hg => rfl); (case hr => first | (go_simp; done) | (go_simp; rfl)); intro gb183 hg w4 hbox hb; have n0_ := Aside0.mk (qq (by repeat (first | (with_reducible first | exact HB.out | apply qe | apply qc | apply qd) | exact HB.out)) hb); have n1_ := Aside0.mk (hbox); have n2_ := Aside0.mk ((by rw [hg]; exact (qr (by repeat (first | (with_reducible first | exact HB.out | apply qe | apply qc | apply qd) | exact HB.out))) : w.heap.size ≤ gb183)); have n3_ := Aside0.mk ((by rw [hg]; exact (qr (by repeat (first | (with_reducible first | exact HB.out | apply qe | apply qc | apply qd) | exact HB.out))) : w.heap.size ≤ gb183)); clear HB; have HB := n0_; have BK183 := n1_; have GW183 := n2_; have GE183 := n3_; clear n0_ n1_ n2_ n3_; clear hb hbox hg; have hcz5_0 : w4.cell? ⟨gb183, 0, none⟩ = some (.int .i64 a0_0) := (qb BK183.out 0).trans rfl; have hcz5_1 : w4.cell? ⟨gb183, 1, none⟩ = some (.int .i64 a0_1) := (qb BK183.out 1).trans rfl; have hcz5_2 : w4.cell? ⟨gb183, 2, none⟩ = some (.int .i64 a0_2) := (qb BK183.out 2).trans rfl; have hcz5_3 : w4.cell? ⟨gb183, 3, none⟩ = some (.int .u32 a0_3) := (qb BK183.out 3).trans rfl; have hcz5_4 : w4.cell? ⟨gb183, 4, none⟩ = some (.int .i64 a0_4) := (qb BK183.out 4).trans rfl; have hcz5_5 : w4.cell? ⟨gb183, 5, none⟩ = some (.int .i64 a0_5) := (qb BK183.out 5).trans rfl; have hfz5_0 := qa BK183.out 0; have hfz5_1 := qa BK183.out 1; have hfz5_2 := qa BK183.out 2; have hfz5_3 := qa BK183.out 3; have hfz5_4 := qa BK183.out 4; have hfz5_5 := qa BK183.out 5))
   go_ret
   exact ⟨by first | rfl | (simp [ql, qm] <;> rfl) | (simp [*, ql, qm] <;> rfl), by repeat (first | (with_reducible first | exact HB.out | apply qe | apply qc | apply qd | refine qh ?_ GE183.out) | exact HB.out)⟩
  ·rw [if_neg c3] at H
   have c3b0 : decide (1 ≤ (wrap64 (a0_3))) = false := decide_eq_false c3
   clear c3
   obtain rfl := Option.some.inj H
   go_enter Try.func133, Try.ntmps133
   go_wp2_with (first | ((with_reducible refine qB (N := 1) rfl ?_); refine qA ?hg (N := 1) ?hd (cs := #[.int .i64 a0_0, .int .i64 a0_1, .int .i64 a0_2, .int .u32 a0_3, .int .i64 a0_4, .int .i64 a0_5]) (t := 67) ?hr ?_; (case hd => rfl); (case hg => rfl); (case hr => first | (go_simp; done) | (go_simp; rfl)); intro gb183 hg w6 hbox hb; have n0_ := Aside0.mk (qq (by repeat (first | (with_reducible first | exact HB.out | apply qe | apply qc | apply qd) | exact HB.out)) hb); have n1_ := Aside0.mk (hbox); have n2_ := Aside0.mk ((by rw [hg]; exact (qr (by repeat (first | (with_reducible first | exact HB.out | apply qe | apply qc | apply qd) | exact HB.out))) : w.heap.size ≤ gb183)); have n3_ := Aside0.mk ((by rw [hg]; exact (qr (by repeat (first | (with_reducible first | exact HB.out | apply qe | apply qc | apply qd) | exact HB.out))) : w.heap.size ≤ gb183)); clear HB; have HB := n0_; have BK183 := n1_; have GW183 := n2_; have GE183 := n3_; clear n0_ n1_ n2_ n3_; clear hb hbox hg; have hcz7_0 : w6.cell? ⟨gb183, 0, none⟩ = some (.int .i64 a0_0) := (qb BK183.out 0).trans rfl; have hcz7_1 : w6.cell? ⟨gb183, 1, none⟩ = some (.int .i64 a0_1) := (qb BK183.out 1).trans rfl; have hcz7_2 : w6.cell? ⟨gb183, 2, none⟩ = some (.int .i64 a0_2) := (qb BK183.out 2).trans rfl; have hcz7_3 : w6.cell? ⟨gb183, 3, none⟩ = some (.int .u32 a0_3) := (qb BK183.out 3).trans rfl; have hcz7_4 : w6.cell? ⟨gb183, 4, none⟩ = some (.int .i64 a0_4) := (qb BK183.out 4).trans rfl; have hcz7_5 : w6.cell? ⟨gb183, 5, none⟩ = some (.int .i64 a0_5) := (qb BK183.out 5).trans rfl; have hfz7_0 := qa BK183.out 0; have hfz7_1 := qa BK183.out 1; have hfz7_2 := qa BK183.out 2; have hfz7_3 := qa BK183.out 3; have hfz7_4 := qa BK183.out 4; have hfz7_5 := qa BK183.out 5))
   go_ret
   exact ⟨by first | rfl | (simp [ql, qm] <;> rfl) | (simp [*, ql, qm] <;> rfl), by repeat (first | (with_reducible first | exact HB.out | apply qe | apply qc | apply qd | refine qh ?_ GE183.out) | exact HB.out)⟩
 ·rw [if_neg c2] at H
  have c2b0 : (a0_0 == 1) = false := beq_eq_false_iff_ne.mpr c2
  have c2b1 : (a0_0 != 1) = true := bne_iff_ne.mpr c2
  by_cases c8 : a0_0 = 2
  ·rw [if_pos c8] at H
   have c8b0 : (a0_0 == 2) = true := beq_iff_eq.mpr c8
   have c8b1 : (a0_0 != 2) = false := bne_eq_false_iff_eq.mpr c8
   clear c8
   obtain rfl := Option.some.inj H
   go_enter Try.func133, Try.ntmps133
   go_wp2_with (first | ((with_reducible refine qB (N := 1) rfl ?_); refine qA ?hg (N := 1) ?hd (cs := #[.int .i64 a0_0, .int .i64 a0_1, .int .i64 a0_2, .int .u32 a0_3, .int .i64 a0_4, .int .i64 a0_5]) (t := 67) ?hr ?_; (case hd => rfl); (case hg => rfl); (case hr => first | (go_simp; done) | (go_simp; rfl)); intro gb183 hg w9 hbox hb; have n0_ := Aside0.mk (qq (by repeat (first | (with_reducible first | exact HB.out | apply qe | apply qc | apply qd) | exact HB.out)) hb); have n1_ := Aside0.mk (hbox); have n2_ := Aside0.mk ((by rw [hg]; exact (qr (by repeat (first | (with_reducible first | exact HB.out | apply qe | apply qc | apply qd) | exact HB.out))) : w.heap.size ≤ gb183)); have n3_ := Aside0.mk ((by rw [hg]; exact (qr (by repeat (first | (with_reducible first | exact HB.out | apply qe | apply qc | apply qd) | exact HB.out))) : w.heap.size ≤ gb183)); clear HB; have HB := n0_; have BK183 := n1_; have GW183 := n2_; have GE183 := n3_; clear n0_ n1_ n2_ n3_; clear hb hbox hg; have hcz10_0 : w9.cell? ⟨gb183, 0, none⟩ = some (.int .i64 a0_0) := (qb BK183.out 0).trans rfl; have hcz10_1 : w9.cell? ⟨gb183, 1, none⟩ = some (.int .i64 a0_1) := (qb BK183.out 1).trans rfl; have hcz10_2 : w9.cell? ⟨gb183, 2, none⟩ = some (.int .i64 a0_2) := (qb BK183.out 2).trans rfl; have hcz10_3 : w9.cell? ⟨gb183, 3, none⟩ = some (.int .u32 a0_3) := (qb BK183.out 3).trans rfl; have hcz10_4 : w9.cell? ⟨gb183, 4, none⟩ = some (.int .i64 a0_4) := (qb BK183.out 4).trans rfl; have hcz10_5 : w9.cell? ⟨gb183, 5, none⟩ = some (.int .i64 a0_5) := (qb BK183.out 5).trans rfl; have hfz10_0 := qa BK183.out 0; have hfz10_1 := qa BK183.out 1; have hfz10_2 := qa BK183.out 2; have hfz10_3 := qa BK183.out 3; have hfz10_4 := qa BK183.out 4; have hfz10_5 := qa BK183.out 5))
   go_ret
   exact ⟨by first | rfl | (simp [ql, qm] <;> rfl) | (simp [*, ql, qm] <;> rfl), by repeat (first | (with_reducible first | exact HB.out | apply qe | apply qc | apply qd | refine qh ?_ GE183.out) | exact HB.out)⟩
  ·rw [if_neg c8] at H
   have c8b0 : (a0_0 == 2) = false := beq_eq_false_iff_ne.mpr c8
   have c8b1 : (a0_0 != 2) = true := bne_iff_ne.mpr c8
   by_cases c11 : a0_0 = 3
   ·rw [if_pos c11] at H
    have c11b0 : (a0_0 == 3) = true := beq_iff_eq.mpr c11
    have c11b1 : (a0_0 != 3) = false := bne_eq_false_iff_eq.mpr c11
    clear c11
    replace H := Option.bind_eq_some_iff.mp H
    obtain ⟨t184, A120, H⟩ := H
    replace H : (some t184) = some r := H
    have A12 := Aside0.mk A120
    clear A120
    obtain rfl := Option.some.inj H
    go_enter Try.func133, Try.ntmps133
    go_wp2_with (first | ((with_reducible refine qB (N := 1) rfl ?_); refine qA ?hg (N := 1) ?hd (cs := #[.int .i64 a0_0, .int .i64 a0_1, .int .i64 a0_2, .int .u32 a0_3, .int .i64 a0_4, .int .i64 a0_5]) (t := 67) ?hr ?_; (case hd => rfl); (case hg => rfl); (case hr => first | (go_simp; done) | (go_simp; rfl)); intro gb183 hg w13 hbox hb; have n0_ := Aside0.mk (qq (by repeat (first | (with_reducible first | exact HB.out | apply qe | apply qc | apply qd) | exact HB.out)) hb); have n1_ := Aside0.mk (hbox); have n2_ := Aside0.mk ((by rw [hg]; exact (qr (by repeat (first | (with_reducible first | exact HB.out | apply qe | apply qc | apply qd) | exact HB.out))) : w.heap.size ≤ gb183)); have n3_ := Aside0.mk ((by rw [hg]; exact (qr (by repeat (first | (with_reducible first | exact HB.out | apply qe | apply qc | apply qd) | exact HB.out))) : w.heap.size ≤ gb183)); clear HB; have HB := n0_; have BK183 := n1_; have GW183 := n2_; have GE183 := n3_; clear n0_ n1_ n2_ n3_; clear hb hbox hg; have hcz14_0 : w13.cell? ⟨gb183, 0, none⟩ = some (.int .i64 a0_0) := (qb BK183.out 0).trans rfl; have hcz14_1 : w13.cell? ⟨gb183, 1, none⟩ = some (.int .i64 a0_1) := (qb BK183.out 1).trans rfl; have hcz14_2 : w13.cell? ⟨gb183, 2, none⟩ = some (.int .i64 a0_2) := (qb BK183.out 2).trans rfl; have hcz14_3 : w13.cell? ⟨gb183, 3, none⟩ = some (.int .u32 a0_3) := (qb BK183.out 3).trans rfl; have hcz14_4 : w13.cell? ⟨gb183, 4, none⟩ = some (.int .i64 a0_4) := (qb BK183.out 4).trans rfl; have hcz14_5 : w13.cell? ⟨gb183, 5, none⟩ = some (.int .i64 a0_5) := (qb BK183.out 5).trans rfl; have hfz14_0 := qa BK183.out 0; have hfz14_1 := qa BK183.out 1; have hfz14_2 := qa BK183.out 2; have hfz14_3 := qa BK183.out 3; have hfz14_4 := qa BK183.out 4; have hfz14_5 := qa BK183.out 5) | ((with_reducible refine qw (f := 143) rfl ?_); refine qN (some 22) rfl rfl Try.func143 (by kernel_rfl) rfl #[.int .i64 (wrap64 (a0_3))] rfl (by (try simp only [List.map_toArray, List.map_cons, List.map_nil]); first | done | rfl | (simp only [List.length_drop, List.length_take]; rfl)) ?_; (with_reducible refine (ir_Reckons.calls (wrap64 (a0_3)) t184 _ A12.out).mono ?_); rintro e w' ⟨rfl, ⟨nd, rfl⟩⟩; refine ⟨_, rfl, ?_⟩))
    go_ret
    exact ⟨by first | rfl | (simp [ql, qm] <;> rfl) | (simp [*, ql, qm] <;> rfl), by repeat (first | (with_reducible first | exact HB.out | apply qe | apply qc | apply qd | refine qh ?_ GE183.out) | exact HB.out)⟩
   ·rw [if_neg c11] at H
    have c11b0 : (a0_0 == 3) = false := beq_eq_false_iff_ne.mpr c11
    have c11b1 : (a0_0 != 3) = true := bne_iff_ne.mpr c11
    by_cases c15 : a0_0 = 4
    ·rw [if_pos c15] at H
     have c15b0 : (a0_0 == 4) = true := beq_iff_eq.mpr c15
     have c15b1 : (a0_0 != 4) = false := bne_eq_false_iff_eq.mpr c15
     clear c15
     replace H := Option.bind_eq_some_iff.mp H
     obtain ⟨t185, A160, H⟩ := H
     replace H : (some (decide (t185 > 0))) = some r := H
     have A16 := Aside0.mk A160
     clear A160
     obtain rfl := Option.some.inj H
     go_enter Try.func133, Try.ntmps133
     go_wp2_with (first | ((with_reducible refine qB (N := 1) rfl ?_); refine qA ?hg (N := 1) ?hd (cs := #[.int .i64 a0_0, .int .i64 a0_1, .int .i64 a0_2, .int .u32 a0_3, .int .i64 a0_4, .int .i64 a0_5]) (t := 67) ?hr ?_; (case hd => rfl); (case hg => rfl); (case hr => first | (go_simp; done) | (go_simp; rfl)); intro gb183 hg w17 hbox hb; have n0_ := Aside0.mk (qq (by repeat (first | (with_reducible first | exact HB.out | apply qe | apply qc | apply qd) | exact HB.out)) hb); have n1_ := Aside0.mk (hbox); have n2_ := Aside0.mk ((by rw [hg]; exact (qr (by repeat (first | (with_reducible first | exact HB.out | apply qe | apply qc | apply qd) | exact HB.out))) : w.heap.size ≤ gb183)); have n3_ := Aside0.mk ((by rw [hg]; exact (qr (by repeat (first | (with_reducible first | exact HB.out | apply qe | apply qc | apply qd) | exact HB.out))) : w.heap.size ≤ gb183)); clear HB; have HB := n0_; have BK183 := n1_; have GW183 := n2_; have GE183 := n3_; clear n0_ n1_ n2_ n3_; clear hb hbox hg; have hcz18_0 : w17.cell? ⟨gb183, 0, none⟩ = some (.int .i64 a0_0) := (qb BK183.out 0).trans rfl; have hcz18_1 : w17.cell? ⟨gb183, 1, none⟩ = some (.int .i64 a0_1) := (qb BK183.out 1).trans rfl; have hcz18_2 : w17.cell? ⟨gb183, 2, none⟩ = some (.int .i64 a0_2) := (qb BK183.out 2).trans rfl; have hcz18_3 : w17.cell? ⟨gb183, 3, none⟩ = some (.int .u32 a0_3) := (qb BK183.out 3).trans rfl; have hcz18_4 : w17.cell? ⟨gb183, 4, none⟩ = some (.int .i64 a0_4) := (qb BK183.out 4).trans rfl; have hcz18_5 : w17.cell? ⟨gb183, 5, none⟩ = some (.int .i64 a0_5) := (qb BK183.out 5).trans rfl; have hfz18_0 := qa BK183.out 0; have hfz18_1 := qa BK183.out 1; have hfz18_2 := qa BK183.out 2; have hfz18_3 := qa BK183.out 3; have hfz18_4 := qa BK183.out 4; have hfz18_5 := qa BK183.out 5) | ((with_reducible refine qw (f := 149) rfl ?_); refine qN (some 26) rfl rfl Try.func149 (by kernel_rfl) rfl #[.int .i64 (wrap64 (a0_3))] rfl (by (try simp only [List.map_toArray, List.map_cons, List.map_nil]); first | done | rfl | (simp only [List.length_drop, List.length_take]; rfl)) ?_; (with_reducible refine (inst_Loads.calls k (wrap64 (a0_3)) t185 _ A16.out).mono ?_); rintro e w' ⟨rfl, ⟨nd, rfl⟩⟩; refine ⟨_, rfl, ?_⟩))
     go_ret
     exact ⟨by first | rfl | (simp [ql, qm] <;> rfl) | (simp [*, ql, qm] <;> rfl), by repeat (first | (with_reducible first | exact HB.out | apply qe | apply qc | apply qd | refine qh ?_ GE183.out) | exact HB.out)⟩
    ·rw [if_neg c15] at H
     have c15b0 : (a0_0 == 4) = false := beq_eq_false_iff_ne.mpr c15
     have c15b1 : (a0_0 != 4) = true := bne_iff_ne.mpr c15
     by_cases c19 : a0_0 = 5
     ·rw [if_pos c19] at H
      have c19b0 : (a0_0 == 5) = true := beq_iff_eq.mpr c19
      have c19b1 : (a0_0 != 5) = false := bne_eq_false_iff_eq.mpr c19
      clear c19
      replace H := Option.bind_eq_some_iff.mp H
      obtain ⟨t186, A200, H⟩ := H
      replace H : (some (decide (t186 > 0))) = some r := H
      have A20 := Aside0.mk A200
      clear A200
      obtain rfl := Option.some.inj H
      go_enter Try.func133, Try.ntmps133
      go_wp2_with (first | ((with_reducible refine qB (N := 1) rfl ?_); refine qA ?hg (N := 1) ?hd (cs := #[.int .i64 a0_0, .int .i64 a0_1, .int .i64 a0_2, .int .u32 a0_3, .int .i64 a0_4, .int .i64 a0_5]) (t := 67) ?hr ?_; (case hd => rfl); (case hg => rfl); (case hr => first | (go_simp; done) | (go_simp; rfl)); intro gb183 hg w21 hbox hb; have n0_ := Aside0.mk (qq (by repeat (first | (with_reducible first | exact HB.out | apply qe | apply qc | apply qd) | exact HB.out)) hb); have n1_ := Aside0.mk (hbox); have n2_ := Aside0.mk ((by rw [hg]; exact (qr (by repeat (first | (with_reducible first | exact HB.out | apply qe | apply qc | apply qd) | exact HB.out))) : w.heap.size ≤ gb183)); have n3_ := Aside0.mk ((by rw [hg]; exact (qr (by repeat (first | (with_reducible first | exact HB.out | apply qe | apply qc | apply qd) | exact HB.out))) : w.heap.size ≤ gb183)); clear HB; have HB := n0_; have BK183 := n1_; have GW183 := n2_; have GE183 := n3_; clear n0_ n1_ n2_ n3_; clear hb hbox hg; have hcz22_0 : w21.cell? ⟨gb183, 0, none⟩ = some (.int .i64 a0_0) := (qb BK183.out 0).trans rfl; have hcz22_1 : w21.cell? ⟨gb183, 1, none⟩ = some (.int .i64 a0_1) := (qb BK183.out 1).trans rfl; have hcz22_2 : w21.cell? ⟨gb183, 2, none⟩ = some (.int .i64 a0_2) := (qb BK183.out 2).trans rfl; have hcz22_3 : w21.cell? ⟨gb183, 3, none⟩ = some (.int .u32 a0_3) := (qb BK183.out 3).trans rfl; have hcz22_4 : w21.cell? ⟨gb183, 4, none⟩ = some (.int .i64 a0_4) := (qb BK183.out 4).trans rfl; have hcz22_5 : w21.cell? ⟨gb183, 5, none⟩ = some (.int .i64 a0_5) := (qb BK183.out 5).trans rfl; have hfz22_0 := qa BK183.out 0; have hfz22_1 := qa BK183.out 1; have hfz22_2 := qa BK183.out 2; have hfz22_3 := qa BK183.out 3; have hfz22_4 := qa BK183.out 4; have hfz22_5 := qa BK183.out 5) | ((with_reducible refine qw (f := 150) rfl ?_); refine qN (some 31) rfl rfl Try.func150 (by kernel_rfl) rfl #[.int .i64 (wrap64 (a0_3))] rfl (by (try simp only [List.map_toArray, List.map_cons, List.map_nil]); first | done | rfl | (simp only [List.length_drop, List.length_take]; rfl)) ?_; (with_reducible refine (inst_Stores.calls (wrap64 (a0_3)) t186 _ A20.out).mono ?_); rintro e w' ⟨rfl, ⟨nd, rfl⟩⟩; refine ⟨_, rfl, ?_⟩))
      go_ret
      exact ⟨by first | rfl | (simp [ql, qm] <;> rfl) | (simp [*, ql, qm] <;> rfl), by repeat (first | (with_reducible first | exact HB.out | apply qe | apply qc | apply qd | refine qh ?_ GE183.out) | exact HB.out)⟩
     ·rw [if_neg c19] at H
      have c19b0 : (a0_0 == 5) = false := beq_eq_false_iff_ne.mpr c19
      have c19b1 : (a0_0 != 5) = true := bne_iff_ne.mpr c19
      by_cases c23 : a0_0 = 6
      ·rw [if_pos c23] at H
       have c23b0 : (a0_0 == 6) = true := beq_iff_eq.mpr c23
       have c23b1 : (a0_0 != 6) = false := bne_eq_false_iff_eq.mpr c23
       clear c23
       by_cases c24 : (wrap64 (a0_3)) ≥ 5
       ·rw [if_pos c24] at H
        have c24b0 : decide (5 ≤ (wrap64 (a0_3))) = true := decide_eq_true c24
        clear c24
        obtain rfl := Option.some.inj H
        go_enter Try.func133, Try.ntmps133
        go_wp2_with (first | ((with_reducible refine qB (N := 1) rfl ?_); refine qA ?hg (N := 1) ?hd (cs := #[.int .i64 a0_0, .int .i64 a0_1, .int .i64 a0_2, .int .u32 a0_3, .int .i64 a0_4, .int .i64 a0_5]) (t := 67) ?hr ?_; (case hd => rfl); (case hg => rfl); (case hr => first | (go_simp; done) | (go_simp; rfl)); intro gb183 hg w25 hbox hb; have n0_ := Aside0.mk (qq (by repeat (first | (with_reducible first | exact HB.out | apply qe | apply qc | apply qd) | exact HB.out)) hb); have n1_ := Aside0.mk (hbox); have n2_ := Aside0.mk ((by rw [hg]; exact (qr (by repeat (first | (with_reducible first | exact HB.out | apply qe | apply qc | apply qd) | exact HB.out))) : w.heap.size ≤ gb183)); have n3_ := Aside0.mk ((by rw [hg]; exact (qr (by repeat (first | (with_reducible first | exact HB.out | apply qe | apply qc | apply qd) | exact HB.out))) : w.heap.size ≤ gb183)); clear HB; have HB := n0_; have BK183 := n1_; have GW183 := n2_; have GE183 := n3_; clear n0_ n1_ n2_ n3_; clear hb hbox hg; have hcz26_0 : w25.cell? ⟨gb183, 0, none⟩ = some (.int .i64 a0_0) := (qb BK183.out 0).trans rfl; have hcz26_1 : w25.cell? ⟨gb183, 1, none⟩ = some (.int .i64 a0_1) := (qb BK183.out 1).trans rfl; have hcz26_2 : w25.cell? ⟨gb183, 2, none⟩ = some (.int .i64 a0_2) := (qb BK183.out 2).trans rfl; have hcz26_3 : w25.cell? ⟨gb183, 3, none⟩ = some (.int .u32 a0_3) := (qb BK183.out 3).trans rfl; have hcz26_4 : w25.cell? ⟨gb183, 4, none⟩ = some (.int .i64 a0_4) := (qb BK183.out 4).trans rfl; have hcz26_5 : w25.cell? ⟨gb183, 5, none⟩ = some (.int .i64 a0_5) := (qb BK183.out 5).trans rfl; have hfz26_0 := qa BK183.out 0; have hfz26_1 := qa BK183.out 1; have hfz26_2 := qa BK183.out 2; have hfz26_3 := qa BK183.out 3; have hfz26_4 := qa BK183.out 4; have hfz26_5 := qa BK183.out 5))
        go_ret
        exact ⟨by first | rfl | (simp [ql, qm] <;> rfl) | (simp [*, ql, qm] <;> rfl), by repeat (first | (with_reducible first | exact HB.out | apply qe | apply qc | apply qd | refine qh ?_ GE183.out) | exact HB.out)⟩
       ·rw [if_neg c24] at H
        have c24b0 : decide (5 ≤ (wrap64 (a0_3))) = false := decide_eq_false c24
        clear c24
        obtain rfl := Option.some.inj H
        go_enter Try.func133, Try.ntmps133
        go_wp2_with (first | ((with_reducible refine qB (N := 1) rfl ?_); refine qA ?hg (N := 1) ?hd (cs := #[.int .i64 a0_0, .int .i64 a0_1, .int .i64 a0_2, .int .u32 a0_3, .int .i64 a0_4, .int .i64 a0_5]) (t := 67) ?hr ?_; (case hd => rfl); (case hg => rfl); (case hr => first | (go_simp; done) | (go_simp; rfl)); intro gb183 hg w27 hbox hb; have n0_ := Aside0.mk (qq (by repeat (first | (with_reducible first | exact HB.out | apply qe | apply qc | apply qd) | exact HB.out)) hb); have n1_ := Aside0.mk (hbox); have n2_ := Aside0.mk ((by rw [hg]; exact (qr (by repeat (first | (with_reducible first | exact HB.out | apply qe | apply qc | apply qd) | exact HB.out))) : w.heap.size ≤ gb183)); have n3_ := Aside0.mk ((by rw [hg]; exact (qr (by repeat (first | (with_reducible first | exact HB.out | apply qe | apply qc | apply qd) | exact HB.out))) : w.heap.size ≤ gb183)); clear HB; have HB := n0_; have BK183 := n1_; have GW183 := n2_; have GE183 := n3_; clear n0_ n1_ n2_ n3_; clear hb hbox hg; have hcz28_0 : w27.cell? ⟨gb183, 0, none⟩ = some (.int .i64 a0_0) := (qb BK183.out 0).trans rfl; have hcz28_1 : w27.cell? ⟨gb183, 1, none⟩ = some (.int .i64 a0_1) := (qb BK183.out 1).trans rfl; have hcz28_2 : w27.cell? ⟨gb183, 2, none⟩ = some (.int .i64 a0_2) := (qb BK183.out 2).trans rfl; have hcz28_3 : w27.cell? ⟨gb183, 3, none⟩ = some (.int .u32 a0_3) := (qb BK183.out 3).trans rfl; have hcz28_4 : w27.cell? ⟨gb183, 4, none⟩ = some (.int .i64 a0_4) := (qb BK183.out 4).trans rfl; have hcz28_5 : w27.cell? ⟨gb183, 5, none⟩ = some (.int .i64 a0_5) := (qb BK183.out 5).trans rfl; have hfz28_0 := qa BK183.out 0; have hfz28_1 := qa BK183.out 1; have hfz28_2 := qa BK183.out 2; have hfz28_3 := qa BK183.out 3; have hfz28_4 := qa BK183.out 4; have hfz28_5 := qa BK183.out 5))
        go_ret
        exact ⟨by first | rfl | (simp [ql, qm] <;> rfl) | (simp [*, ql, qm] <;> rfl), by repeat (first | (with_reducible first | exact HB.out | apply qe | apply qc | apply qd | refine qh ?_ GE183.out) | exact HB.out)⟩
      ·rw [if_neg c23] at H
       have c23b0 : (a0_0 == 6) = false := beq_eq_false_iff_ne.mpr c23
       have c23b1 : (a0_0 != 6) = true := bne_iff_ne.mpr c23
       obtain rfl := Option.some.inj H
       go_enter Try.func133, Try.ntmps133
       go_wp2_with (first | ((with_reducible refine qB (N := 1) rfl ?_); refine qA ?hg (N := 1) ?hd (cs := #[.int .i64 a0_0, .int .i64 a0_1, .int .i64 a0_2, .int .u32 a0_3, .int .i64 a0_4, .int .i64 a0_5]) (t := 67) ?hr ?_; (case hd => rfl); (case hg => rfl); (case hr => first | (go_simp; done) | (go_simp; rfl)); intro gb183 hg w29 hbox hb; have n0_ := Aside0.mk (qq (by repeat (first | (with_reducible first | exact HB.out | apply qe | apply qc | apply qd) | exact HB.out)) hb); have n1_ := Aside0.mk (hbox); have n2_ := Aside0.mk ((by rw [hg]; exact (qr (by repeat (first | (with_reducible first | exact HB.out | apply qe | apply qc | apply qd) | exact HB.out))) : w.heap.size ≤ gb183)); have n3_ := Aside0.mk ((by rw [hg]; exact (qr (by repeat (first | (with_reducible first | exact HB.out | apply qe | apply qc | apply qd) | exact HB.out))) : w.heap.size ≤ gb183)); clear HB; have HB := n0_; have BK183 := n1_; have GW183 := n2_; have GE183 := n3_; clear n0_ n1_ n2_ n3_; clear hb hbox hg; have hcz30_0 : w29.cell? ⟨gb183, 0, none⟩ = some (.int .i64 a0_0) := (qb BK183.out 0).trans rfl; have hcz30_1 : w29.cell? ⟨gb183, 1, none⟩ = some (.int .i64 a0_1) := (qb BK183.out 1).trans rfl; have hcz30_2 : w29.cell? ⟨gb183, 2, none⟩ = some (.int .i64 a0_2) := (qb BK183.out 2).trans rfl; have hcz30_3 : w29.cell? ⟨gb183, 3, none⟩ = some (.int .u32 a0_3) := (qb BK183.out 3).trans rfl; have hcz30_4 : w29.cell? ⟨gb183, 4, none⟩ = some (.int .i64 a0_4) := (qb BK183.out 4).trans rfl; have hcz30_5 : w29.cell? ⟨gb183, 5, none⟩ = some (.int .i64 a0_5) := (qb BK183.out 5).trans rfl; have hfz30_0 := qa BK183.out 0; have hfz30_1 := qa BK183.out 1; have hfz30_2 := qa BK183.out 2; have hfz30_3 := qa BK183.out 3; have hfz30_4 := qa BK183.out 4; have hfz30_5 := qa BK183.out 5))
       go_ret
       exact ⟨by first | rfl | (simp [ql, qm] <;> rfl) | (simp [*, ql, qm] <;> rfl), by repeat (first | (with_reducible first | exact HB.out | apply qe | apply qc | apply qd | refine qh ?_ GE183.out) | exact HB.out)⟩

end Go.Proofs.Ythjgakoofmmloaa.PNumberDoes
