/- Proved: contracts of single functions, and words for them, as the kit's print has printed them; names shortened. Conditions: those that each theorem names. -/
import Derived.Test.YthjgakoofmmloaaZPNumberDoesx0
namespace Go.Proofs.Ythjgakoofmmloaa.PNumberDoes
open Go.RowKit Go.Proofs.YthjgakoofmmloaaW.PrintWords Go.Proofs.YthjgakoofmmloaaW.PrintLast Go.Proofs.YthjgakoofmmloaaW.PrintMore
attribute [local go_sem] max2_int min2_int max_two min_two qQ qR max_four min_four
set_option linter.unusedVariables false
set_option linter.unusedSimpArgs false

def mimesisref23_Value.f (l0_0 : List Int) (l0_1 : List (S62)) (l0_2 : List (S65)) (a0_3 : Int) (a1 : Int) (a2 : Int) : Option (Bool) := if a1 ≥ 0 then (if a1 < a2 then (if a1 < (l0_1.length : Int) then (if 0 ≤ a1 then (if ((qk l0_1 a1).f0) ≥ 1 then (some (decide (((qk l0_1 a1).f0) ≤ 4))) else (some false)) else (none)) else (some false)) else (some false)) else (some false)
set_option maxHeartbeats 8000000 in
set_option maxRecDepth 100000 in
theorem mimesisref23_Value.calls (A0_0 : Option Addr) (c0_0 : Nat) (l0_0 : List Int) (A0_1 : Option Addr) (c0_1 : Nat) (l0_1 : List (S62)) (A0_2 : Option Addr) (c0_2 : Nat) (l0_2 : List (S65)) (a0_3 : Int) (a1 : Int) (a2 : Int) (r : Bool) (w : World) (hr0_0 : Kd.C (Kd.int .u32) w A0_0 l0_0.length l0_0) (hc0_0 : l0_0.length ≤ c0_0) (hr0_1 : Kd.C k62 w A0_1 l0_1.length l0_1) (hc0_1 : l0_1.length ≤ c0_1) (hr0_2 : Kd.C k65 w A0_2 l0_2.length l0_2) (hc0_2 : l0_2.length ≤ c0_2) (h : mimesisref23_Value.f l0_0 l0_1 l0_2 a0_3 a1 a2 = some r) :
  Calls Try.prog 86 #[.agg #[.slice A0_0 l0_0.length c0_0, .slice A0_1 l0_1.length c0_1, .slice A0_2 l0_2.length c0_2, .int .i64 a0_3], .int .i64 a1, .int .i64 a2] w fun e w' => e = .returned (.bool r) ∧ Below w.heap.size w w' := by
 have hu26 := Try.underlying26
 have HR0_0 := Aside0.mk hr0_0
 have HC0_0 := Aside0.mk hc0_0
 clear hr0_0 hc0_0
 have HR0_1 := Aside0.mk hr0_1
 have HC0_1 := Aside0.mk hc0_1
 clear hr0_1 hc0_1
 have HR0_2 := Aside0.mk hr0_2
 have HC0_2 := Aside0.mk hc0_2
 clear hr0_2 hc0_2
 have HB := Aside0.mk (Below.refl w.heap.size w)
 have H : (if a1 ≥ 0 then (if a1 < a2 then (if a1 < (l0_1.length : Int) then (if 0 ≤ a1 then (if ((qk l0_1 a1).f0) ≥ 1 then (some (decide (((qk l0_1 a1).f0) ≤ 4))) else (some false)) else (none)) else (some false)) else (some false)) else (some false)) = some r := h
 clear h
 by_cases c4 : a1 ≥ 0
 ·rw [if_pos c4] at H
  have c4b0 : decide (0 ≤ a1) = true := decide_eq_true c4
  clear c4
  by_cases c5 : a1 < a2
  ·rw [if_pos c5] at H
   have c5b0 : decide (a1 < a2) = true := decide_eq_true c5
   clear c5
   by_cases c6 : a1 < (l0_1.length : Int)
   ·rw [if_pos c6] at H
    have c6b0 : decide (a1 < (l0_1.length : Int)) = true := decide_eq_true c6
    clear c6
    by_cases c7 : 0 ≤ a1
    ·rw [if_pos c7] at H
     have c7b0 : decide (0 ≤ a1) = true := decide_eq_true c7
     clear c7
     by_cases c8 : ((qk l0_1 a1).f0) ≥ 1
     ·rw [if_pos c8] at H
      have c8b0 : decide (1 ≤ ((qk l0_1 a1).f0)) = true := decide_eq_true c8
      clear c8
      obtain rfl := Option.some.inj H
      go_enter Try.func86, Try.ntmps86
      go_wp2_with (first | ((with_reducible refine qB (N := 3) rfl ?_); (try (refine qP (by rfl) ?_; dsimp only)); refine qA ?hg (N := 3) ?hd (cs := #[.slice A0_0 l0_0.length c0_0, .slice A0_1 l0_1.length c0_1, .slice A0_2 l0_2.length c0_2, .int .i64 a0_3]) (t := 26) ?hr ?_; (case hd => rfl); (case hg => rfl); (case hr => first | (go_simp; done) | (go_simp; rfl)); intro gb101 hg w9 hbox hb; have n0_ := Aside0.mk (qq (by repeat (first | (with_reducible first | exact HB.out | apply qe | apply qc | apply qd) | exact HB.out)) hb); have n1_ := Aside0.mk (hbox); have n2_ := Aside0.mk ((by rw [hg]; exact (qr (by repeat (first | (with_reducible first | exact HB.out | apply qe | apply qc | apply qd) | exact HB.out))) : w.heap.size ≤ gb101)); have n3_ := Aside0.mk ((by rw [hg]; exact (qr (by repeat (first | (with_reducible first | exact HB.out | apply qe | apply qc | apply qd) | exact HB.out))) : w.heap.size ≤ gb101)); clear HB; have HB := n0_; have BK101 := n1_; have GW101 := n2_; have GE101 := n3_; clear n0_ n1_ n2_ n3_; clear hb hbox hg; have hcz10_0 : w9.cell? ⟨gb101, 0, none⟩ = some (.slice A0_0 l0_0.length c0_0) := (qb BK101.out 0).trans rfl; have hcz10_1 : w9.cell? ⟨gb101, 1, none⟩ = some (.slice A0_1 l0_1.length c0_1) := (qb BK101.out 1).trans rfl; have hcz10_2 : w9.cell? ⟨gb101, 2, none⟩ = some (.slice A0_2 l0_2.length c0_2) := (qb BK101.out 2).trans rfl; have hcz10_3 : w9.cell? ⟨gb101, 3, none⟩ = some (.int .i64 a0_3) := (qb BK101.out 3).trans rfl; have hfz10_0 := qa BK101.out 0; have hfz10_1 := qa BK101.out 1; have hfz10_2 := qa BK101.out 2; have hfz10_3 := qa BK101.out 3; have p102 : 0 ≤ (a1 : Int) := of_decide_eq_true (by assumption); have q102 : a1 < (l0_1.length : Int) := of_decide_eq_true (by assumption); obtain ⟨ad102, e102, hx102_0, hx102_1, hx102_2, hx102_3, hx102_4, hx102_5⟩ := at_T62 HR0_1.out a1 p102 q102; cases e102; replace hx102_0 := (HB.out.cell (blc9 w _ hx102_0)).trans hx102_0; replace hx102_1 := (HB.out.cell (blc9 w _ hx102_1)).trans hx102_1; replace hx102_2 := (HB.out.cell (blc9 w _ hx102_2)).trans hx102_2; replace hx102_3 := (HB.out.cell (blc9 w _ hx102_3)).trans hx102_3; replace hx102_4 := (HB.out.cell (blc9 w _ hx102_4)).trans hx102_4; replace hx102_5 := (HB.out.cell (blc9 w _ hx102_5)).trans hx102_5; replace p102 := eq_true p102; replace q102 := eq_true q102; have p103 : 0 ≤ (a1 : Int) := of_decide_eq_true (by assumption); have q103 : a1 < (l0_1.length : Int) := of_decide_eq_true (by assumption); obtain ⟨ad103, e103, hx103_0, hx103_1, hx103_2, hx103_3, hx103_4, hx103_5⟩ := at_T62 HR0_1.out a1 p103 q103; obtain rfl : ad102 = ad103 := (by injection e103); replace hx103_0 := (HB.out.cell (blc9 w _ hx103_0)).trans hx103_0; replace hx103_1 := (HB.out.cell (blc9 w _ hx103_1)).trans hx103_1; replace hx103_2 := (HB.out.cell (blc9 w _ hx103_2)).trans hx103_2; replace hx103_3 := (HB.out.cell (blc9 w _ hx103_3)).trans hx103_3; replace hx103_4 := (HB.out.cell (blc9 w _ hx103_4)).trans hx103_4; replace hx103_5 := (HB.out.cell (blc9 w _ hx103_5)).trans hx103_5; replace p103 := eq_true p103; replace q103 := eq_true q103))
      go_ret
      exact ⟨by first | rfl | (simp [ql, qm] <;> rfl) | (simp [*, ql, qm] <;> rfl), by repeat (first | (with_reducible first | exact HB.out | apply qe | apply qc | apply qd | refine qh ?_ GE101.out) | exact HB.out)⟩
     ·rw [if_neg c8] at H
      have c8b0 : decide (1 ≤ ((qk l0_1 a1).f0)) = false := decide_eq_false c8
      clear c8
      obtain rfl := Option.some.inj H
      go_enter Try.func86, Try.ntmps86
      go_wp2_with (first | ((with_reducible refine qB (N := 3) rfl ?_); (try (refine qP (by rfl) ?_; dsimp only)); refine qA ?hg (N := 3) ?hd (cs := #[.slice A0_0 l0_0.length c0_0, .slice A0_1 l0_1.length c0_1, .slice A0_2 l0_2.length c0_2, .int .i64 a0_3]) (t := 26) ?hr ?_; (case hd => rfl); (case hg => rfl); (case hr => first | (go_simp; done) | (go_simp; rfl)); intro gb101 hg w11 hbox hb; have n0_ := Aside0.mk (qq (by repeat (first | (with_reducible first | exact HB.out | apply qe | apply qc | apply qd) | exact HB.out)) hb); have n1_ := Aside0.mk (hbox); have n2_ := Aside0.mk ((by rw [hg]; exact (qr (by repeat (first | (with_reducible first | exact HB.out | apply qe | apply qc | apply qd) | exact HB.out))) : w.heap.size ≤ gb101)); have n3_ := Aside0.mk ((by rw [hg]; exact (qr (by repeat (first | (with_reducible first | exact HB.out | apply qe | apply qc | apply qd) | exact HB.out))) : w.heap.size ≤ gb101)); clear HB; have HB := n0_; have BK101 := n1_; have GW101 := n2_; have GE101 := n3_; clear n0_ n1_ n2_ n3_; clear hb hbox hg; have hcz12_0 : w11.cell? ⟨gb101, 0, none⟩ = some (.slice A0_0 l0_0.length c0_0) := (qb BK101.out 0).trans rfl; have hcz12_1 : w11.cell? ⟨gb101, 1, none⟩ = some (.slice A0_1 l0_1.length c0_1) := (qb BK101.out 1).trans rfl; have hcz12_2 : w11.cell? ⟨gb101, 2, none⟩ = some (.slice A0_2 l0_2.length c0_2) := (qb BK101.out 2).trans rfl; have hcz12_3 : w11.cell? ⟨gb101, 3, none⟩ = some (.int .i64 a0_3) := (qb BK101.out 3).trans rfl; have hfz12_0 := qa BK101.out 0; have hfz12_1 := qa BK101.out 1; have hfz12_2 := qa BK101.out 2; have hfz12_3 := qa BK101.out 3; have p102 : 0 ≤ (a1 : Int) := of_decide_eq_true (by assumption); have q102 : a1 < (l0_1.length : Int) := of_decide_eq_true (by assumption); obtain ⟨ad102, e102, hx102_0, hx102_1, hx102_2, hx102_3, hx102_4, hx102_5⟩ := at_T62 HR0_1.out a1 p102 q102; cases e102; replace hx102_0 := (HB.out.cell (blc9 w _ hx102_0)).trans hx102_0; replace hx102_1 := (HB.out.cell (blc9 w _ hx102_1)).trans hx102_1; replace hx102_2 := (HB.out.cell (blc9 w _ hx102_2)).trans hx102_2; replace hx102_3 := (HB.out.cell (blc9 w _ hx102_3)).trans hx102_3; replace hx102_4 := (HB.out.cell (blc9 w _ hx102_4)).trans hx102_4; replace hx102_5 := (HB.out.cell (blc9 w _ hx102_5)).trans hx102_5; replace p102 := eq_true p102; replace q102 := eq_true q102))
      go_ret
      exact ⟨by first | rfl | (simp [ql, qm] <;> rfl) | (simp [*, ql, qm] <;> rfl), by repeat (first | (with_reducible first | exact HB.out | apply qe | apply qc | apply qd | refine qh ?_ GE101.out) | exact HB.out)⟩
    ·rw [if_neg c7] at H
     exact absurd H (by simp)
   ·rw [if_neg c6] at H
    have c6b0 : decide (a1 < (l0_1.length : Int)) = false := decide_eq_false c6
    clear c6
    obtain rfl := Option.some.inj H
    go_enter Try.func86, Try.ntmps86
    go_wp2_with (first | ((with_reducible refine qB (N := 3) rfl ?_); (try (refine qP (by rfl) ?_; dsimp only)); refine qA ?hg (N := 3) ?hd (cs := #[.slice A0_0 l0_0.length c0_0, .slice A0_1 l0_1.length c0_1, .slice A0_2 l0_2.length c0_2, .int .i64 a0_3]) (t := 26) ?hr ?_; (case hd => rfl); (case hg => rfl); (case hr => first | (go_simp; done) | (go_simp; rfl)); intro gb101 hg w13 hbox hb; have n0_ := Aside0.mk (qq (by repeat (first | (with_reducible first | exact HB.out | apply qe | apply qc | apply qd) | exact HB.out)) hb); have n1_ := Aside0.mk (hbox); have n2_ := Aside0.mk ((by rw [hg]; exact (qr (by repeat (first | (with_reducible first | exact HB.out | apply qe | apply qc | apply qd) | exact HB.out))) : w.heap.size ≤ gb101)); have n3_ := Aside0.mk ((by rw [hg]; exact (qr (by repeat (first | (with_reducible first | exact HB.out | apply qe | apply qc | apply qd) | exact HB.out))) : w.heap.size ≤ gb101)); clear HB; have HB := n0_; have BK101 := n1_; have GW101 := n2_; have GE101 := n3_; clear n0_ n1_ n2_ n3_; clear hb hbox hg; have hcz14_0 : w13.cell? ⟨gb101, 0, none⟩ = some (.slice A0_0 l0_0.length c0_0) := (qb BK101.out 0).trans rfl; have hcz14_1 : w13.cell? ⟨gb101, 1, none⟩ = some (.slice A0_1 l0_1.length c0_1) := (qb BK101.out 1).trans rfl; have hcz14_2 : w13.cell? ⟨gb101, 2, none⟩ = some (.slice A0_2 l0_2.length c0_2) := (qb BK101.out 2).trans rfl; have hcz14_3 : w13.cell? ⟨gb101, 3, none⟩ = some (.int .i64 a0_3) := (qb BK101.out 3).trans rfl; have hfz14_0 := qa BK101.out 0; have hfz14_1 := qa BK101.out 1; have hfz14_2 := qa BK101.out 2; have hfz14_3 := qa BK101.out 3))
    go_ret
    exact ⟨by first | rfl | (simp [ql, qm] <;> rfl) | (simp [*, ql, qm] <;> rfl), by repeat (first | (with_reducible first | exact HB.out | apply qe | apply qc | apply qd | refine qh ?_ GE101.out) | exact HB.out)⟩
  ·rw [if_neg c5] at H
   have c5b0 : decide (a1 < a2) = false := decide_eq_false c5
   clear c5
   obtain rfl := Option.some.inj H
   go_enter Try.func86, Try.ntmps86
   go_wp2_with (first | ((with_reducible refine qB (N := 3) rfl ?_); (try (refine qP (by rfl) ?_; dsimp only)); refine qA ?hg (N := 3) ?hd (cs := #[.slice A0_0 l0_0.length c0_0, .slice A0_1 l0_1.length c0_1, .slice A0_2 l0_2.length c0_2, .int .i64 a0_3]) (t := 26) ?hr ?_; (case hd => rfl); (case hg => rfl); (case hr => first | (go_simp; done) | (go_simp; rfl)); intro gb101 hg w15 hbox hb; have n0_ := Aside0.mk (qq (by repeat (first | (with_reducible first | exact HB.out | apply qe | apply qc | apply qd) | exact HB.out)) hb); have n1_ := Aside0.mk (hbox); have n2_ := Aside0.mk ((by rw [hg]; exact (qr (by repeat (first | (with_reducible first | exact HB.out | apply qe | apply qc | apply qd) | exact HB.out))) : w.heap.size ≤ gb101)); have n3_ := Aside0.mk ((by rw [hg]; exact (qr (by repeat (first | (with_reducible first | exact HB.out | apply qe | apply qc | apply qd) | exact HB.out))) : w.heap.size ≤ gb101)); clear HB; have HB := n0_; have BK101 := n1_; have GW101 := n2_; have GE101 := n3_; clear n0_ n1_ n2_ n3_; clear hb hbox hg))
   go_ret
   exact ⟨by first | rfl | (simp [ql, qm] <;> rfl) | (simp [*, ql, qm] <;> rfl), by repeat (first | (with_reducible first | exact HB.out | apply qe | apply qc | apply qd | refine qh ?_ GE101.out) | exact HB.out)⟩
 ·rw [if_neg c4] at H
  have c4b0 : decide (0 ≤ a1) = false := decide_eq_false c4
  clear c4
  obtain rfl := Option.some.inj H
  go_enter Try.func86, Try.ntmps86
  go_wp2_with (first | ((with_reducible refine qB (N := 3) rfl ?_); (try (refine qP (by rfl) ?_; dsimp only)); refine qA ?hg (N := 3) ?hd (cs := #[.slice A0_0 l0_0.length c0_0, .slice A0_1 l0_1.length c0_1, .slice A0_2 l0_2.length c0_2, .int .i64 a0_3]) (t := 26) ?hr ?_; (case hd => rfl); (case hg => rfl); (case hr => first | (go_simp; done) | (go_simp; rfl)); intro gb101 hg w16 hbox hb; have n0_ := Aside0.mk (qq (by repeat (first | (with_reducible first | exact HB.out | apply qe | apply qc | apply qd) | exact HB.out)) hb); have n1_ := Aside0.mk (hbox); have n2_ := Aside0.mk ((by rw [hg]; exact (qr (by repeat (first | (with_reducible first | exact HB.out | apply qe | apply qc | apply qd) | exact HB.out))) : w.heap.size ≤ gb101)); have n3_ := Aside0.mk ((by rw [hg]; exact (qr (by repeat (first | (with_reducible first | exact HB.out | apply qe | apply qc | apply qd) | exact HB.out))) : w.heap.size ≤ gb101)); clear HB; have HB := n0_; have BK101 := n1_; have GW101 := n2_; have GE101 := n3_; clear n0_ n1_ n2_ n3_; clear hb hbox hg))
  go_ret
  exact ⟨by first | rfl | (simp [ql, qm] <;> rfl) | (simp [*, ql, qm] <;> rfl), by repeat (first | (with_reducible first | exact HB.out | apply qe | apply qc | apply qd | refine qh ?_ GE101.out) | exact HB.out)⟩

mutual
def mimesisref23_exit.j0 : Nat → Int → Int → Bool → List Int → List (S62) → List (S65) → Int → Option (Bool)
 | 0, _, _, _, _, _, _, _ => none
 | k + 1, x1, x2, x17, x105000, x105001, x105002, x105003 => if x17 = true then (some false) else (if 0 ≤ x1 then (if x1 < (x105002.length : Int) then (mimesisref23_exit.l0 k x2 0 x105000 x105001 x105002 x105003 ((qj x105002 x1).f0) ((qj x105002 x1).f1) ((qj x105002 x1).f2) ((qj x105002 x1).f3) ((qj x105002 x1).f4)) else (none)) else (none))
def mimesisref23_exit.l0 : Nat → Int → Int → List Int → List (S62) → List (S65) → Int → Int → Int → Int → Int → List (S85) → Option (Bool)
 | 0, _, _, _, _, _, _, _, _, _, _, _ => none
 | k + 1, x2, x8, x105000, x105001, x105002, x105003, x107000, x107001, x107002, x107003, x107004 => if x8 < (x107004.length : Int) then (if 0 ≤ x8 then ((mimesisref23_Value.f x105000 x105001 x105002 x105003 ((qH x107004 x8).f1) x2).bind fun t108 => (if t108 = true then (mimesisref23_exit.l0 k x2 (wrap64 (x8 + 1)) x105000 x105001 x105002 x105003 x107000 x107001 x107002 x107003 x107004) else (some false))) else (none)) else (if x107002 = (-1) then (some true) else ((mimesisref23_Value.f x105000 x105001 x105002 x105003 x107002 x2).bind fun t109 => (some t109)))
end
def mimesisref23_exit.f (k : Nat) (l0_0 : List Int) (l0_1 : List (S62)) (l0_2 : List (S65)) (a0_3 : Int) (a1 : Int) (a2 : Int) : Option (Bool) := if a1 < 0 then (mimesisref23_exit.j0 k a1 a2 true l0_0 l0_1 l0_2 a0_3) else (mimesisref23_exit.j0 k a1 a2 (decide (a1 ≥ (l0_2.length : Int))) l0_0 l0_1 l0_2 a0_3)
def mimesisref23_exit.T7 : Bool × List (List Nat × List Nat) := (true, [([], []), ([], []), ([1], [1]), ([], []), ([2, 3], [2, 3]), ([4], [4]), ([5], [5]), ([], []), ([0, 6, 7], [0, 6, 7]), ([8], [8])])
def mimesisref23_exit.B7 : List Nat := [0, 0, 2, 0, 14, 30, 62, 0, 255, 511]
theorem mimesisref23_exit.tab7 : rtab .any (opsOf Try.f49 7) = mimesisref23_exit.T7 := by kernel_rfl
theorem mimesisref23_exit.bits7 : waitsOk mimesisref23_exit.T7.2 mimesisref23_exit.B7 = true := by kernel_rfl
set_option maxHeartbeats 8000000 in
set_option maxRecDepth 100000 in
theorem mimesisref23_exit.calls (k : Nat) (A0_0 : Option Addr) (c0_0 : Nat) (l0_0 : List Int) (A0_1 : Option Addr) (c0_1 : Nat) (l0_1 : List (S62)) (A0_2 : Option Addr) (c0_2 : Nat) (l0_2 : List (S65)) (a0_3 : Int) (a1 : Int) (a2 : Int) (r : Bool) (w : World) (hr0_0 : Kd.C (Kd.int .u32) w A0_0 l0_0.length l0_0) (hc0_0 : l0_0.length ≤ c0_0) (hr0_1 : Kd.C k62 w A0_1 l0_1.length l0_1) (hc0_1 : l0_1.length ≤ c0_1) (hr0_2 : Kd.C k65 w A0_2 l0_2.length l0_2) (hc0_2 : l0_2.length ≤ c0_2) (h : mimesisref23_exit.f k l0_0 l0_1 l0_2 a0_3 a1 a2 = some r) :
  Calls Try.prog 49 #[.agg #[.slice A0_0 l0_0.length c0_0, .slice A0_1 l0_1.length c0_1, .slice A0_2 l0_2.length c0_2, .int .i64 a0_3], .int .i64 a1, .int .i64 a2] w fun e w' => e = .returned (.bool r) ∧ Below w.heap.size w w' := by
 have hu26 := Try.underlying26
 have hu65 := Try.underlying65
 have HR0_0 := Aside0.mk hr0_0
 have HC0_0 := Aside0.mk hc0_0
 clear hr0_0 hc0_0
 have HR0_1 := Aside0.mk hr0_1
 have HC0_1 := Aside0.mk hc0_1
 clear hr0_1 hc0_1
 have HR0_2 := Aside0.mk hr0_2
 have HC0_2 := Aside0.mk hc0_2
 clear hr0_2 hc0_2
 have HB := Aside0.mk (Below.refl w.heap.size w)
 have H : (if a1 < 0 then (mimesisref23_exit.j0 k a1 a2 true l0_0 l0_1 l0_2 a0_3) else (mimesisref23_exit.j0 k a1 a2 (decide (a1 ≥ (l0_2.length : Int))) l0_0 l0_1 l0_2 a0_3)) = some r := h
 clear h
 have HC4 := Aside0.mk H
 clear H
 go_enter Try.func49, Try.ntmps49
 go_upto_region 1 with (first | ((with_reducible refine qB (N := 3) rfl ?_); (try (refine qP (by rfl) ?_; dsimp only)); refine qA ?hg (N := 3) ?hd (cs := #[.slice A0_0 l0_0.length c0_0, .slice A0_1 l0_1.length c0_1, .slice A0_2 l0_2.length c0_2, .int .i64 a0_3]) (t := 26) ?hr ?_; (case hd => rfl); (case hg => rfl); (case hr => first | (go_simp; done) | (go_simp; rfl)); intro gb104 hg w5 hbox hb; have n0_ := Aside0.mk (qq (by repeat (first | (with_reducible first | exact HB.out | apply qe | apply qc | apply qd) | exact HB.out)) hb); have n1_ := Aside0.mk (hbox); have n2_ := Aside0.mk ((by rw [hg]; exact (qr (by repeat (first | (with_reducible first | exact HB.out | apply qe | apply qc | apply qd) | exact HB.out))) : w.heap.size ≤ gb104)); have n3_ := Aside0.mk ((by rw [hg]; exact (qr (by repeat (first | (with_reducible first | exact HB.out | apply qe | apply qc | apply qd) | exact HB.out))) : w.heap.size ≤ gb104)); clear HB; have HB := n0_; have BK104 := n1_; have GW104 := n2_; have GE104 := n3_; clear n0_ n1_ n2_ n3_; clear hb hbox hg))
 (try simp only [Act.put, List.setIfInBounds_toArray, List.set_cons_zero, List.set_cons_succ])
 go_cut [17] (fun v17 wc => ∃ (kq : Nat) (x17_3 : Bool), v17 = .bool x17_3 ∧ Aside0 (mimesisref23_exit.j0 kq a1 a2 x17_3 l0_0 l0_1 l0_2 a0_3 = some r) ∧ Aside0 (kq ≤ k) ∧ Aside0 (wc.heap[gb104]? = some (.cells #[(.slice A0_0 l0_0.length c0_0), (.slice A0_1 l0_1.length c0_1), (.slice A0_2 l0_2.length c0_2), .int .i64 a0_3] 26 (0, 0))) ∧ Aside0 (Below w.heap.size w wc))
 case first =>
  have H := HC4.out
  clear HC4
  by_cases c6 : a1 < 0
  ·rw [if_pos c6] at H
   have c6b0 : decide (a1 < 0) = true := decide_eq_true c6
   clear c6
   (first | rw [c6b0] | (simp only [i64_w, i32_w]; rw [c6b0]) | skip)
   have H' := Aside0.mk H
   clear H
   go_wp2
   go_meet
   case rel => exact ⟨_, (true), (by first | rfl | (simp; done) | (simp [*]; done)), H', ⟨by first | omega | exact Nat.le_refl _⟩, ⟨by (with_reducible repeat (first | refine qg ?_ _ | refine qi ?_ | refine qf ?_ _)); exact BK104.out⟩, ⟨by repeat (first | (with_reducible first | exact HB.out | apply qe | apply qc | apply qd | refine qh ?_ GE104.out) | exact HB.out)⟩⟩
  ·rw [if_neg c6] at H
   have c6b0 : decide (a1 < 0) = false := decide_eq_false c6
   clear c6
   (first | rw [c6b0] | (simp only [i64_w, i32_w]; rw [c6b0]) | skip)
   have H' := Aside0.mk H
   clear H
   have hcz7_0 : w5.cell? ⟨gb104, 0, none⟩ = some (.slice A0_0 l0_0.length c0_0) := (qb BK104.out 0).trans rfl
   have hcz7_1 : w5.cell? ⟨gb104, 1, none⟩ = some (.slice A0_1 l0_1.length c0_1) := (qb BK104.out 1).trans rfl
   have hcz7_2 : w5.cell? ⟨gb104, 2, none⟩ = some (.slice A0_2 l0_2.length c0_2) := (qb BK104.out 2).trans rfl
   have hcz7_3 : w5.cell? ⟨gb104, 3, none⟩ = some (.int .i64 a0_3) := (qb BK104.out 3).trans rfl
   have hfz7_0 := qa BK104.out 0
   have hfz7_1 := qa BK104.out 1
   have hfz7_2 := qa BK104.out 2
   have hfz7_3 := qa BK104.out 3
   go_wp2
   go_meet
   case rel => exact ⟨_, (decide (a1 ≥ (l0_2.length : Int))), (by first | rfl | (simp; done) | (simp [*]; done)), H', ⟨by first | omega | exact Nat.le_refl _⟩, ⟨by (with_reducible repeat (first | refine qg ?_ _ | refine qi ?_ | refine qf ?_ _)); exact BK104.out⟩, ⟨by repeat (first | (with_reducible first | exact HB.out | apply qe | apply qc | apply qd | refine qh ?_ GE104.out) | exact HB.out)⟩⟩
 case rest =>
  clear HC4
  try clear p2
  try clear c4
  try clear c6
  try clear c6b0
  try clear hcz7_0
  try clear hcz7_1
  try clear hcz7_2
  try clear hcz7_3
  try clear hfz7_0
  try clear hfz7_1
  try clear hfz7_2
  try clear hfz7_3
  obtain ⟨kq, x17_3, rfl, HA, HJ3, BK104, HB⟩ := hcut
  cases kq with
  | zero => exact absurd HA.out (by simp [mimesisref23_exit.j0])
  | succ kj3 =>
   have H := HA.out
   clear HA
   simp only [mimesisref23_exit.j0] at H
   by_cases c8 : x17_3 = true
   ·subst c8
    have H1 : (some false) = some r := by rw [if_pos rfl] at H; exact H
    clear H
    have H := H1
    clear H1
    obtain rfl := Option.some.inj H
    go_wp2
    go_ret
    exact ⟨by first | rfl | (simp [ql, qm] <;> rfl) | (simp [*, ql, qm] <;> rfl), by repeat (first | (with_reducible first | exact HB.out | apply qe | apply qc | apply qd | refine qh ?_ GE104.out) | exact HB.out)⟩
   ·replace c8 := Bool.eq_false_iff.mpr c8
    subst c8
    have H1 : (if 0 ≤ a1 then (if a1 < (l0_2.length : Int) then (mimesisref23_exit.l0 kj3 a2 0 l0_0 l0_1 l0_2 a0_3 ((qj l0_2 a1).f0) ((qj l0_2 a1).f1) ((qj l0_2 a1).f2) ((qj l0_2 a1).f3) ((qj l0_2 a1).f4)) else (none)) else (none)) = some r := by rw [if_neg (show ¬ (false = true) by decide)] at H; exact H
    clear H
    have H := H1
    clear H1
    by_cases c9 : 0 ≤ a1
    ·rw [if_pos c9] at H
     have c9b0 : decide (0 ≤ a1) = true := decide_eq_true c9
     clear c9
     by_cases c10 : a1 < (l0_2.length : Int)
     ·rw [if_pos c10] at H
      have c10b0 : decide (a1 < (l0_2.length : Int)) = true := decide_eq_true c10
      clear c10
      have H' := Aside0.mk H
      clear H
      have hcz11_0 : wc.cell? ⟨gb104, 0, none⟩ = some (.slice A0_0 l0_0.length c0_0) := (qb BK104.out 0).trans rfl
      have hcz11_1 : wc.cell? ⟨gb104, 1, none⟩ = some (.slice A0_1 l0_1.length c0_1) := (qb BK104.out 1).trans rfl
      have hcz11_2 : wc.cell? ⟨gb104, 2, none⟩ = some (.slice A0_2 l0_2.length c0_2) := (qb BK104.out 2).trans rfl
      have hcz11_3 : wc.cell? ⟨gb104, 3, none⟩ = some (.int .i64 a0_3) := (qb BK104.out 3).trans rfl
      have hfz11_0 := qa BK104.out 0
      have hfz11_1 := qa BK104.out 1
      have hfz11_2 := qa BK104.out 2
      have hfz11_3 := qa BK104.out 3
      have p105 : 0 ≤ (a1 : Int) := of_decide_eq_true (by assumption)
      have q105 : a1 < (l0_2.length : Int) := of_decide_eq_true (by assumption)
      obtain ⟨ad105, A105_4, c105_4, e105, hx105_0, hx105_1, hx105_2, hx105_3, hx105_4, hl105_4, hi105_4⟩ := at_T65 HR0_2.out a1 p105 q105
      cases e105
      replace hx105_0 := (HB.out.cell (blc9 w _ hx105_0)).trans hx105_0
      replace hx105_1 := (HB.out.cell (blc9 w _ hx105_1)).trans hx105_1
      replace hx105_2 := (HB.out.cell (blc9 w _ hx105_2)).trans hx105_2
      replace hx105_3 := (HB.out.cell (blc9 w _ hx105_3)).trans hx105_3
      replace hx105_4 := (HB.out.cell (blc9 w _ hx105_4)).trans hx105_4
      have HR105_4 := Aside0.mk hi105_4
      have HC105_4 := Aside0.mk hl105_4
      clear hi105_4 hl105_4
      replace p105 := eq_true p105
      replace q105 := eq_true q105
      go_wp2_with (first | ((with_reducible refine qB (N := 7) rfl ?_); (try (refine qP (by rfl) ?_; dsimp only)); refine qA ?hg (N := 7) ?hd (cs := #[.int .i64 0, .int .u32 0, .int .i64 0, .int .i64 0, .slice none 0 0]) (t := 65) ?hr ?_; (case hd => rfl); (case hg => rfl); (case hr => first | (go_simp; done) | (go_simp; rfl)); intro gb106 hg w12 hbox hb; have n0_ := Aside0.mk (qo (g := gb104) (o := .cells #[.slice A0_0 l0_0.length c0_0, .slice A0_1 l0_1.length c0_1, .slice (some ad105) l0_2.length c0_2, .int .i64 a0_3] 26 (0, 0)) (by (with_reducible repeat (first | refine qg ?_ _ | refine qi ?_ | refine qf ?_ _)); exact BK104.out) hb); have n1_ := Aside0.mk (qq (by repeat (first | (with_reducible first | exact HB.out | apply qe | apply qc | apply qd | refine qh ?_ GE104.out) | exact HB.out)) hb); have n2_ := Aside0.mk (hbox); have n3_ := Aside0.mk ((by rw [hg]; exact (qr (by repeat (first | (with_reducible first | exact HB.out | apply qe | apply qc | apply qd | refine qh ?_ GE104.out) | exact HB.out))) : w.heap.size ≤ gb106)); have n4_ := Aside0.mk ((by rw [hg]; exact (qr (by repeat (first | (with_reducible first | exact HB.out | apply qe | apply qc | apply qd | refine qh ?_ GE104.out) | exact HB.out))) : w.heap.size ≤ gb106)); have n5_ := Aside0.mk ((by rw [hg]; exact nne9 (qG (g := gb104) (o := .cells #[.slice A0_0 l0_0.length c0_0, .slice A0_1 l0_1.length c0_1, .slice (some ad105) l0_2.length c0_2, .int .i64 a0_3] 26 (0, 0)) (by (with_reducible repeat (first | refine qg ?_ _ | refine qi ?_ | refine qf ?_ _)); exact BK104.out)) : gb104 ≠ gb106)); have n6_ := Aside0.mk ((by rw [hg]; exact Nat.ne_of_gt (qG (g := gb104) (o := .cells #[.slice A0_0 l0_0.length c0_0, .slice A0_1 l0_1.length c0_1, .slice (some ad105) l0_2.length c0_2, .int .i64 a0_3] 26 (0, 0)) (by (with_reducible repeat (first | refine qg ?_ _ | refine qi ?_ | refine qf ?_ _)); exact BK104.out)) : gb106 ≠ gb104)); clear BK104; clear HB; have BK104 := n0_; have HB := n1_; have BK106 := n2_; have GW106 := n3_; have GE106 := n4_; have NB104_106 := n5_; have NB106_104 := n6_; clear n0_ n1_ n2_ n3_ n4_ n5_ n6_; clear hb hbox hg; have hnb13 := NB106_104.out; have hnc13 := NB104_106.out; have hcz14_0 : w12.cell? ⟨gb106, 0, none⟩ = some (.int .i64 0) := (qb BK106.out 0).trans rfl; have hcz14_1 : w12.cell? ⟨gb106, 1, none⟩ = some (.int .u32 0) := (qb BK106.out 1).trans rfl; have hcz14_2 : w12.cell? ⟨gb106, 2, none⟩ = some (.int .i64 0) := (qb BK106.out 2).trans rfl; have hcz14_3 : w12.cell? ⟨gb106, 3, none⟩ = some (.int .i64 0) := (qb BK106.out 3).trans rfl; have hcz14_4 : w12.cell? ⟨gb106, 4, none⟩ = some (.slice none 0 0) := (qb BK106.out 4).trans rfl; have hfz14_0 := qa BK106.out 0; have hfz14_1 := qa BK106.out 1; have hfz14_2 := qa BK106.out 2; have hfz14_3 := qa BK106.out 3; have hfz14_4 := qa BK106.out 4))
      go_loopg [8] kj3 (fun kq v8 w' => ∃ (x8_2 : Int), v8 = .int .i64 x8_2 ∧ Aside0 (mimesisref23_exit.l0 kq a2 x8_2 l0_0 l0_1 l0_2 a0_3 ((qj l0_2 a1).f0) ((qj l0_2 a1).f1) ((qj l0_2 a1).f2) ((qj l0_2 a1).f3) ((qj l0_2 a1).f4) = some r) ∧ Aside0 (kq ≤ kj3) ∧ Aside0 (w'.heap[gb104]? = some (.cells #[(.slice A0_0 l0_0.length c0_0), (.slice A0_1 l0_1.length c0_1), (.slice (some ad105) l0_2.length c0_2), .int .i64 a0_3] 26 (0, 0))) ∧ Aside0 (w'.heap[gb106]? = some (.cells #[.int .i64 ((qj l0_2 a1).f0), .int .u32 ((qj l0_2 a1).f1), .int .i64 ((qj l0_2 a1).f2), .int .i64 ((qj l0_2 a1).f3), (.slice A105_4 ((qj l0_2 a1).f4).length c105_4)] 65 (0, 0))) ∧ Aside0 (Below w.heap.size w w'))
      case atStart => exact ⟨(0), (by first | rfl | (simp; done) | (simp [*]; done)), H', ⟨Nat.le_refl _⟩, ⟨by (with_reducible repeat (first | refine qg ?_ _ | refine qi ?_ | refine qf ?_ _)); refine qp ?_ NB104_106.out _; (with_reducible repeat (first | refine qg ?_ _ | refine qi ?_ | refine qf ?_ _)); refine qp ?_ NB104_106.out _; (with_reducible repeat (first | refine qg ?_ _ | refine qi ?_ | refine qf ?_ _)); refine qp ?_ NB104_106.out _; (with_reducible repeat (first | refine qg ?_ _ | refine qi ?_ | refine qf ?_ _)); refine qp ?_ NB104_106.out _; (with_reducible repeat (first | refine qg ?_ _ | refine qi ?_ | refine qf ?_ _)); refine qp ?_ NB104_106.out _; (with_reducible repeat (first | refine qg ?_ _ | refine qi ?_ | refine qf ?_ _)); exact BK104.out⟩, ⟨by (with_reducible repeat (first | refine qg ?_ _ | refine qi ?_ | refine qf ?_ _)); refine qt (cs := #[.int .i64 ((qj l0_2 a1).f0), .int .u32 ((qj l0_2 a1).f1), .int .i64 ((qj l0_2 a1).f2), .int .i64 ((qj l0_2 a1).f3), .slice none 0 0]) ?_ 4 _ rfl; (with_reducible repeat (first | refine qg ?_ _ | refine qi ?_ | refine qf ?_ _)); refine qt (cs := #[.int .i64 ((qj l0_2 a1).f0), .int .u32 ((qj l0_2 a1).f1), .int .i64 ((qj l0_2 a1).f2), .int .i64 0, .slice none 0 0]) ?_ 3 _ rfl; (with_reducible repeat (first | refine qg ?_ _ | refine qi ?_ | refine qf ?_ _)); refine qt (cs := #[.int .i64 ((qj l0_2 a1).f0), .int .u32 ((qj l0_2 a1).f1), .int .i64 0, .int .i64 0, .slice none 0 0]) ?_ 2 _ rfl; (with_reducible repeat (first | refine qg ?_ _ | refine qi ?_ | refine qf ?_ _)); refine qt (cs := #[.int .i64 ((qj l0_2 a1).f0), .int .u32 0, .int .i64 0, .int .i64 0, .slice none 0 0]) ?_ 1 _ rfl; (with_reducible repeat (first | refine qg ?_ _ | refine qi ?_ | refine qf ?_ _)); refine qt (cs := #[.int .i64 0, .int .u32 0, .int .i64 0, .int .i64 0, .slice none 0 0]) ?_ 0 _ rfl; (with_reducible repeat (first | refine qg ?_ _ | refine qi ?_ | refine qf ?_ _)); exact BK106.out⟩, ⟨by repeat (first | (with_reducible first | exact HB.out | apply qe | apply qc | apply qd | refine qh ?_ GE104.out | refine qh ?_ GE106.out) | exact HB.out)⟩⟩
      case round =>
       clear H'
       try clear c1
       try clear p1
       try clear q1
       try clear hx1
       try clear p2
       try clear c4
       try clear c6
       try clear c6b0
       try clear c8
       try clear c9
       try clear c9b0
       try clear c10
       try clear c10b0
       try clear p10
       try clear q10
       try clear hx10
       try clear c13
       try clear hcz11_0
       try clear hcz11_1
       try clear hcz11_2
       try clear hcz11_3
       try clear hcz14_0
       try clear hcz14_1
       try clear hcz14_2
       try clear hcz14_3
       try clear hcz14_4
       try clear hcz7_0
       try clear hcz7_1
       try clear hcz7_2
       try clear hcz7_3
       try clear hfz11_0
       try clear hfz11_1
       try clear hfz11_2
       try clear hfz11_3
       try clear hfz14_0
       try clear hfz14_1
       try clear hfz14_2
       try clear hfz14_3
       try clear hfz14_4
       try clear hfz7_0
       try clear hfz7_1
       try clear hfz7_2
       try clear hfz7_3
       try clear hx105_0
       try clear hx105_1
       try clear hx105_2
       try clear hx105_3
       try clear hx105_4
       try clear p105
       try clear p2
       try clear q105
       obtain ⟨x8_2, rfl, HA, HK2, BK104, BK106, HB⟩ := hrel
       cases gk with
       | zero => exact absurd HA.out (by simp [mimesisref23_exit.l0])
       | succ k2 =>
        have H := HA.out
        clear HA
        simp only [mimesisref23_exit.l0] at H
        by_cases c15 : x8_2 < (((qj l0_2 a1).f4).length : Int)
        ·rw [if_pos c15] at H
         have c15b0 : decide (x8_2 < (((qj l0_2 a1).f4).length : Int)) = true := decide_eq_true c15
         clear c15
         by_cases c16 : 0 ≤ x8_2
         ·rw [if_pos c16] at H
          have c16b0 : decide (0 ≤ x8_2) = true := decide_eq_true c16
          clear c16
          replace H := Option.bind_eq_some_iff.mp H
          obtain ⟨t108, A170, H⟩ := H
          replace H : (if t108 = true then (mimesisref23_exit.l0 k2 a2 (wrap64 (x8_2 + 1)) l0_0 l0_1 l0_2 a0_3 ((qj l0_2 a1).f0) ((qj l0_2 a1).f1) ((qj l0_2 a1).f2) ((qj l0_2 a1).f3) ((qj l0_2 a1).f4)) else (some false)) = some r := H
          have A17 := Aside0.mk A170
          clear A170
          by_cases c18 : t108 = true
          ·subst c18
           have H1 : (mimesisref23_exit.l0 k2 a2 (wrap64 (x8_2 + 1)) l0_0 l0_1 l0_2 a0_3 ((qj l0_2 a1).f0) ((qj l0_2 a1).f1) ((qj l0_2 a1).f2) ((qj l0_2 a1).f3) ((qj l0_2 a1).f4)) = some r := by rw [if_pos rfl] at H; exact H
           clear H
           have H := H1
           clear H1
           have H' := Aside0.mk H
           clear H
           have hnb19 := NB106_104.out
           have hnc19 := NB104_106.out
           have hcz20_0 : wr.cell? ⟨gb106, 0, none⟩ = some (.int .i64 ((qj l0_2 a1).f0)) := (qb BK106.out 0).trans rfl
           have hcz20_1 : wr.cell? ⟨gb106, 1, none⟩ = some (.int .u32 ((qj l0_2 a1).f1)) := (qb BK106.out 1).trans rfl
           have hcz20_2 : wr.cell? ⟨gb106, 2, none⟩ = some (.int .i64 ((qj l0_2 a1).f2)) := (qb BK106.out 2).trans rfl
           have hcz20_3 : wr.cell? ⟨gb106, 3, none⟩ = some (.int .i64 ((qj l0_2 a1).f3)) := (qb BK106.out 3).trans rfl
           have hcz20_4 : wr.cell? ⟨gb106, 4, none⟩ = some (.slice A105_4 ((qj l0_2 a1).f4).length c105_4) := (qb BK106.out 4).trans rfl
           have hfz20_0 := qa BK106.out 0
           have hfz20_1 := qa BK106.out 1
           have hfz20_2 := qa BK106.out 2
           have hfz20_3 := qa BK106.out 3
           have hfz20_4 := qa BK106.out 4
           try go_wp2
           have n0_ := Aside0.mk (qi BK104.out)
           have n1_ := Aside0.mk (qi BK106.out)
           have n2_ := Aside0.mk (qd HB.out)
           clear BK104
           clear BK106
           clear HB
           have BK104 := n0_
           have BK106 := n1_
           have HB := n2_
           clear n0_ n1_ n2_
           have p107 : 0 ≤ (x8_2 : Int) := of_decide_eq_true (by assumption)
           have q107 : x8_2 < (((qj l0_2 a1).f4).length : Int) := of_decide_eq_true (by assumption)
           obtain ⟨ad107, e107, hx107_0, hx107_1⟩ := at_T85 HR105_4.out x8_2 p107 q107
           have hw107_1 := hx107_1
           have hw107_0 := hx107_0
           cases e107
           replace hx107_0 := (HB.out.cell (blc9 w _ hx107_0)).trans hx107_0
           replace hx107_1 := (HB.out.cell (blc9 w _ hx107_1)).trans hx107_1
           replace p107 := eq_true p107
           replace q107 := eq_true q107
           refine start_ (n := 10) (S := fun w' => w'.cell? ⟨gb104, 0, none⟩ = some (.slice A0_0 l0_0.length c0_0) ∧ w'.cell? ⟨gb104, 1, none⟩ = some (.slice A0_1 l0_1.length c0_1) ∧ w'.cell? ⟨gb104, 2, none⟩ = some (.slice (some ad105) l0_2.length c0_2) ∧ w'.cell? ⟨gb104, 3, none⟩ = some (.int .i64 a0_3) ∧ w'.cell? ⟨gb106, 0, none⟩ = some (.int .i64 ((qj l0_2 a1).f0)) ∧ w'.cell? ⟨gb106, 1, none⟩ = some (.int .u32 ((qj l0_2 a1).f1)) ∧ w'.cell? ⟨gb106, 2, none⟩ = some (.int .i64 ((qj l0_2 a1).f2)) ∧ w'.cell? ⟨gb106, 3, none⟩ = some (.int .i64 ((qj l0_2 a1).f3)) ∧ w'.cell? ⟨gb106, 4, none⟩ = some (.slice (some ad107) ((qj l0_2 a1).f4).length c105_4) ∧ w'.cell? (ad107.add ((x8_2).toNat * 2)) = some (.int .i64 ((qH ((qj l0_2 a1).f4) x8_2).f0)) ∧ w'.cell? ⟨(ad107.add ((x8_2).toNat * 2)).block, (ad107.add ((x8_2).toNat * 2)).off + 1, none⟩ = some (.int .i64 ((qH ((qj l0_2 a1).f4) x8_2).f1))) (ds := []) #[false, false, false, false, false, false, false, false, false, false] (by kernel_rfl) rfl rfl ⟨(qb BK104.out 0).trans rfl, (qb BK104.out 1).trans rfl, (qb BK104.out 2).trans rfl, (qb BK104.out 3).trans rfl, (qb BK106.out 0).trans rfl, (qb BK106.out 1).trans rfl, (qb BK106.out 2).trans rfl, (qb BK106.out 3).trans rfl, (qb BK106.out 4).trans rfl, ((HB.out.cell (blc9 w _ hw107_0)).trans hw107_0), ((HB.out.cell (blc9 w _ hw107_1)).trans hw107_1)⟩ (fun hHeld => ?_); refine with_tabW mimesisref23_exit.tab7 mimesisref23_exit.bits7 (fun HT_ HW_ => ?_)
           generalize wr.drew = w21 at BK104 BK106 HB hx107_0 hx107_1 hHeld ⊢
           refine pure_ (i := 1) (N := some 31) (v := ?_) (a' := ?_) #[false, true, false, false, false, false, false, false, false, false] rfl rfl (any_of HT_.out (by kernel_rfl)) (fun _ _ _ h => h) (Or.inl ⟨by rfl, ?_⟩) ?_ ?_
           rotate_left
           ·intro w'
            go_simp
            with_reducible rfl
           rotate_left
           ·simp only [Act.put, List.setIfInBounds_toArray, List.set_cons_zero, List.set_cons_succ, i64_w, i32_w]
            rfl
           refine pure_ (i := 3) (N := some 33) (v := ?_) (a' := ?_) #[false, true, false, true, false, false, false, false, false, false] rfl rfl (any_of HT_.out (by kernel_rfl)) (fun _ _ _ h => h) (Or.inl ⟨by rfl, ?_⟩) ?_ ?_
           rotate_left
           ·intro w'
            go_simp
            with_reducible rfl
           rotate_left
           ·simp only [Act.put, List.setIfInBounds_toArray, List.set_cons_zero, List.set_cons_succ, i64_w, i32_w]
            rfl
           refine pure_ (i := 7) (N := some 37) (v := ?_) (a' := ?_) #[false, true, false, true, false, false, false, true, false, false] rfl rfl (any_of HT_.out (by kernel_rfl)) (fun _ _ _ h => h) (Or.inl ⟨by rfl, ?_⟩) ?_ ?_
           rotate_left
           ·intro w'
            go_simp
            with_reducible rfl
           rotate_left
           ·simp only [Act.put, List.setIfInBounds_toArray, List.set_cons_zero, List.set_cons_succ, i64_w, i32_w]
            rfl
           refine take_ (i := 0) (N := some 30) (v := ?_) (a' := ?_) #[true, true, false, true, false, false, false, true, false, false] rfl rfl (take_ofW HT_.out HW_.out (by kernel_rfl)) (fun _ _ _ h => h) (Or.inl ⟨by rfl, ?_⟩) hHeld ?_ ?_
           rotate_left
           ·rintro w' ⟨s0, s1, s2, s3, s4, s5, s6, s7, s8, s9, s10⟩
            go_simp
            with_reducible rfl
           rotate_left
           ·simp only [Act.put, List.setIfInBounds_toArray, List.set_cons_zero, List.set_cons_succ, i64_w, i32_w]
            rfl
           refine take_ (i := 2) (N := some 32) (v := ?_) (a' := ?_) #[true, true, true, true, false, false, false, true, false, false] rfl rfl (take_ofW HT_.out HW_.out (by kernel_rfl)) (fun _ _ _ h => h) (Or.inl ⟨by rfl, ?_⟩) hHeld ?_ ?_
           rotate_left
           ·rintro w' ⟨s0, s1, s2, s3, s4, s5, s6, s7, s8, s9, s10⟩
            go_simp
            with_reducible rfl
           rotate_left
           ·simp only [Act.put, List.setIfInBounds_toArray, List.set_cons_zero, List.set_cons_succ, i64_w, i32_w]
            rfl
           refine pure_ (i := 4) (N := some 34) (v := ?_) (a' := ?_) #[true, true, true, true, true, false, false, true, false, false] rfl rfl (any_of HT_.out (by kernel_rfl)) (fun _ _ _ h => h) (Or.inl ⟨by rfl, ?_⟩) ?_ ?_
           rotate_left
           ·intro w'
            go_simp
            with_reducible rfl
           rotate_left
           ·simp only [Act.put, List.setIfInBounds_toArray, List.set_cons_zero, List.set_cons_succ, i64_w, i32_w]
            rfl
           refine pure_ (i := 5) (N := some 35) (v := ?_) (a' := ?_) #[true, true, true, true, true, true, false, true, false, false] rfl rfl (any_of HT_.out (by kernel_rfl)) (fun _ _ _ h => h) (Or.inl ⟨by rfl, ?_⟩) ?_ ?_
           rotate_left
           ·intro w'
            go_simp
            with_reducible rfl
           rotate_left
           ·simp only [Act.put, List.setIfInBounds_toArray, List.set_cons_zero, List.set_cons_succ, i64_w, i32_w]
            rfl
           refine take_ (i := 6) (N := some 36) (v := ?_) (a' := ?_) #[true, true, true, true, true, true, true, true, false, false] rfl rfl (take_ofW HT_.out HW_.out (by kernel_rfl)) (fun _ _ _ h => h) (Or.inl ⟨by rfl, ?_⟩) hHeld ?_ ?_
           rotate_left
           ·rintro w' ⟨s0, s1, s2, s3, s4, s5, s6, s7, s8, s9, s10⟩
            go_simp
            with_reducible rfl
           rotate_left
           ·simp only [Act.put, List.setIfInBounds_toArray, List.set_cons_zero, List.set_cons_succ, i64_w, i32_w]
            rfl
           refine one_ (i := 8) (N := some 38) #[true, true, true, true, true, true, true, true, true, false] rfl rfl (one_of HT_.out (by kernel_rfl)) (by decide) (fun K hK => ?_)
           refine goes_ Try.func86 (by kernel_rfl) rfl #[.agg #[.slice A0_0 l0_0.length c0_0, .slice A0_1 l0_1.length c0_1, .slice (some ad105) l0_2.length c0_2, .int .i64 a0_3], .int .i64 ((qH ((qj l0_2 a1).f4) x8_2).f1), .int .i64 a2] (by rfl) rfl rfl (by (try simp only [List.map_toArray, List.map_cons, List.map_nil]); first | done | rfl | (simp only [List.length_drop, List.length_take]; rfl)) ?_
           with_reducible refine (mimesisref23_Value.calls _ _ l0_0 _ _ l0_1 _ _ l0_2 a0_3 ((qH ((qj l0_2 a1).f4) x8_2).f1) a2 true _ ?side1 ?side2 ?side3 ?side4 ?side5 ?side6 A17.out).mono ?_
           (case side1 => repeat (first | exact (Kd.qn HR0_0.out HB.out) | (with_reducible refine Kd.qu ?_ _) | (with_reducible refine Kd.qv ?_ _) | (with_reducible refine Kd.qx ?_)))
           (case side2 => exact HC0_0.out)
           (case side3 => repeat (first | exact (Kd.qn HR0_1.out HB.out) | (with_reducible refine Kd.qu ?_ _) | (with_reducible refine Kd.qv ?_ _) | (with_reducible refine Kd.qx ?_)))
           (case side4 => exact HC0_1.out)
           (case side5 => repeat (first | exact (Kd.qn HR0_2.out HB.out) | (with_reducible refine Kd.qu ?_ _) | (with_reducible refine Kd.qv ?_ _) | (with_reducible refine Kd.qx ?_)))
           (case side6 => exact HC0_2.out)
           rintro e w22 ⟨rfl, hb⟩
           refine ⟨_, rfl, ?_⟩
           have n0_ := Aside0.mk (qo (g := gb104) (o := .cells #[.slice A0_0 l0_0.length c0_0, .slice A0_1 l0_1.length c0_1, .slice (some ad105) l0_2.length c0_2, .int .i64 a0_3] 26 (0, 0)) (by (with_reducible repeat (first | refine qg ?_ _ | refine qi ?_ | refine qf ?_ _)); exact BK104.out) hb)
           have n1_ := Aside0.mk (qo (g := gb106) (o := .cells #[.int .i64 ((qj l0_2 a1).f0), .int .u32 ((qj l0_2 a1).f1), .int .i64 ((qj l0_2 a1).f2), .int .i64 ((qj l0_2 a1).f3), .slice (some ad107) ((qj l0_2 a1).f4).length c105_4] 65 (0, 0)) (by (with_reducible repeat (first | refine qg ?_ _ | refine qi ?_ | refine qf ?_ _)); exact BK106.out) hb)
           have n2_ := Aside0.mk (qq (by repeat (first | (with_reducible first | exact HB.out | apply qe | apply qc | apply qd | refine qh ?_ GE104.out | refine qh ?_ GE106.out) | exact HB.out)) hb)
           clear BK104
           clear BK106
           clear HB
           have BK104 := n0_
           have BK106 := n1_
           have HB := n2_
           clear n0_ n1_ n2_
           (try clear hb)
           (try clear hb2)
           (try clear hk)
           (try clear hi)
           refine hK.out _ _ ⟨(qb BK104.out 0).trans rfl, (qb BK104.out 1).trans rfl, (qb BK104.out 2).trans rfl, (qb BK104.out 3).trans rfl, (qb BK106.out 0).trans rfl, (qb BK106.out 1).trans rfl, (qb BK106.out 2).trans rfl, (qb BK106.out 3).trans rfl, (qb BK106.out 4).trans rfl, ((HB.out.cell (blc9 w _ hw107_0)).trans hw107_0), ((HB.out.cell (blc9 w _ hw107_1)).trans hw107_1)⟩ (fun hHeld => ?_)
           clear hK K
           refine norm_ (a' := ?_) ?_ ?_
           rotate_left
           ·show Act.put _ (some 38) _ = _
            simp only [Act.put, List.setIfInBounds_toArray, List.set_cons_zero, List.set_cons_succ, i64_w, i32_w]
            rfl
           refine pure_ (i := 9) (N := some 39) (v := ?_) (a' := ?_) #[true, true, true, true, true, true, true, true, true, true] rfl rfl (any_of HT_.out (by kernel_rfl)) (fun _ _ _ h => h) (Or.inl ⟨by rfl, ?_⟩) ?_ ?_
           rotate_left
           ·intro w'
            go_simp
            with_reducible rfl
           rotate_left
           ·simp only [Act.put, List.setIfInBounds_toArray, List.set_cons_zero, List.set_cons_succ, i64_w, i32_w]
            rfl
           refine done_ (done_of HT_.out (by kernel_rfl)) ?_
           try go_wp2
           go_roundg k2
           case measure => have := HJ3.out; have := HK2.out; omega
           case rel => exact ⟨(wrap64 (x8_2 + 1)), (by first | rfl | (simp; done) | (simp [*]; done)), H', ⟨by have := HJ3.out; have := HK2.out; omega⟩, ⟨by (with_reducible repeat (first | refine qg ?_ _ | refine qi ?_ | refine qf ?_ _)); exact BK104.out⟩, ⟨by (with_reducible repeat (first | refine qg ?_ _ | refine qi ?_ | refine qf ?_ _)); exact BK106.out⟩, ⟨by repeat (first | (with_reducible first | exact HB.out | apply qe | apply qc | apply qd | refine qh ?_ GE104.out | refine qh ?_ GE106.out) | exact HB.out)⟩⟩
          ·replace c18 := Bool.eq_false_iff.mpr c18
           subst c18
           have H1 : (some false) = some r := by rw [if_neg (show ¬ (false = true) by decide)] at H; exact H
           clear H
           have H := H1
           clear H1
           obtain rfl := Option.some.inj H
           have hnb23 := NB106_104.out
           have hnc23 := NB104_106.out
           have hcz24_0 : wr.cell? ⟨gb106, 0, none⟩ = some (.int .i64 ((qj l0_2 a1).f0)) := (qb BK106.out 0).trans rfl
           have hcz24_1 : wr.cell? ⟨gb106, 1, none⟩ = some (.int .u32 ((qj l0_2 a1).f1)) := (qb BK106.out 1).trans rfl
           have hcz24_2 : wr.cell? ⟨gb106, 2, none⟩ = some (.int .i64 ((qj l0_2 a1).f2)) := (qb BK106.out 2).trans rfl
           have hcz24_3 : wr.cell? ⟨gb106, 3, none⟩ = some (.int .i64 ((qj l0_2 a1).f3)) := (qb BK106.out 3).trans rfl
           have hcz24_4 : wr.cell? ⟨gb106, 4, none⟩ = some (.slice A105_4 ((qj l0_2 a1).f4).length c105_4) := (qb BK106.out 4).trans rfl
           have hfz24_0 := qa BK106.out 0
           have hfz24_1 := qa BK106.out 1
           have hfz24_2 := qa BK106.out 2
           have hfz24_3 := qa BK106.out 3
           have hfz24_4 := qa BK106.out 4
           try go_wp2
           have n0_ := Aside0.mk (qi BK104.out)
           have n1_ := Aside0.mk (qi BK106.out)
           have n2_ := Aside0.mk (qd HB.out)
           clear BK104
           clear BK106
           clear HB
           have BK104 := n0_
           have BK106 := n1_
           have HB := n2_
           clear n0_ n1_ n2_
           have p107 : 0 ≤ (x8_2 : Int) := of_decide_eq_true (by assumption)
           have q107 : x8_2 < (((qj l0_2 a1).f4).length : Int) := of_decide_eq_true (by assumption)
           obtain ⟨ad107, e107, hx107_0, hx107_1⟩ := at_T85 HR105_4.out x8_2 p107 q107
           have hw107_1 := hx107_1
           have hw107_0 := hx107_0
           cases e107
           replace hx107_0 := (HB.out.cell (blc9 w _ hx107_0)).trans hx107_0
           replace hx107_1 := (HB.out.cell (blc9 w _ hx107_1)).trans hx107_1
           replace p107 := eq_true p107
           replace q107 := eq_true q107
           refine start_ (n := 10) (S := fun w' => w'.cell? ⟨gb104, 0, none⟩ = some (.slice A0_0 l0_0.length c0_0) ∧ w'.cell? ⟨gb104, 1, none⟩ = some (.slice A0_1 l0_1.length c0_1) ∧ w'.cell? ⟨gb104, 2, none⟩ = some (.slice (some ad105) l0_2.length c0_2) ∧ w'.cell? ⟨gb104, 3, none⟩ = some (.int .i64 a0_3) ∧ w'.cell? ⟨gb106, 0, none⟩ = some (.int .i64 ((qj l0_2 a1).f0)) ∧ w'.cell? ⟨gb106, 1, none⟩ = some (.int .u32 ((qj l0_2 a1).f1)) ∧ w'.cell? ⟨gb106, 2, none⟩ = some (.int .i64 ((qj l0_2 a1).f2)) ∧ w'.cell? ⟨gb106, 3, none⟩ = some (.int .i64 ((qj l0_2 a1).f3)) ∧ w'.cell? ⟨gb106, 4, none⟩ = some (.slice (some ad107) ((qj l0_2 a1).f4).length c105_4) ∧ w'.cell? (ad107.add ((x8_2).toNat * 2)) = some (.int .i64 ((qH ((qj l0_2 a1).f4) x8_2).f0)) ∧ w'.cell? ⟨(ad107.add ((x8_2).toNat * 2)).block, (ad107.add ((x8_2).toNat * 2)).off + 1, none⟩ = some (.int .i64 ((qH ((qj l0_2 a1).f4) x8_2).f1))) (ds := []) #[false, false, false, false, false, false, false, false, false, false] (by kernel_rfl) rfl rfl ⟨(qb BK104.out 0).trans rfl, (qb BK104.out 1).trans rfl, (qb BK104.out 2).trans rfl, (qb BK104.out 3).trans rfl, (qb BK106.out 0).trans rfl, (qb BK106.out 1).trans rfl, (qb BK106.out 2).trans rfl, (qb BK106.out 3).trans rfl, (qb BK106.out 4).trans rfl, ((HB.out.cell (blc9 w _ hw107_0)).trans hw107_0), ((HB.out.cell (blc9 w _ hw107_1)).trans hw107_1)⟩ (fun hHeld => ?_); refine with_tabW mimesisref23_exit.tab7 mimesisref23_exit.bits7 (fun HT_ HW_ => ?_)
           generalize wr.drew = w25 at BK104 BK106 HB hx107_0 hx107_1 hHeld ⊢
           refine pure_ (i := 1) (N := some 31) (v := ?_) (a' := ?_) #[false, true, false, false, false, false, false, false, false, false] rfl rfl (any_of HT_.out (by kernel_rfl)) (fun _ _ _ h => h) (Or.inl ⟨by rfl, ?_⟩) ?_ ?_
           rotate_left
           ·intro w'
            go_simp
            with_reducible rfl
           rotate_left
           ·simp only [Act.put, List.setIfInBounds_toArray, List.set_cons_zero, List.set_cons_succ, i64_w, i32_w]
            rfl
           refine pure_ (i := 3) (N := some 33) (v := ?_) (a' := ?_) #[false, true, false, true, false, false, false, false, false, false] rfl rfl (any_of HT_.out (by kernel_rfl)) (fun _ _ _ h => h) (Or.inl ⟨by rfl, ?_⟩) ?_ ?_
           rotate_left
           ·intro w'
            go_simp
            with_reducible rfl
           rotate_left
           ·simp only [Act.put, List.setIfInBounds_toArray, List.set_cons_zero, List.set_cons_succ, i64_w, i32_w]
            rfl
           refine pure_ (i := 7) (N := some 37) (v := ?_) (a' := ?_) #[false, true, false, true, false, false, false, true, false, false] rfl rfl (any_of HT_.out (by kernel_rfl)) (fun _ _ _ h => h) (Or.inl ⟨by rfl, ?_⟩) ?_ ?_
           rotate_left
           ·intro w'
            go_simp
            with_reducible rfl
           rotate_left
           ·simp only [Act.put, List.setIfInBounds_toArray, List.set_cons_zero, List.set_cons_succ, i64_w, i32_w]
            rfl
           refine take_ (i := 0) (N := some 30) (v := ?_) (a' := ?_) #[true, true, false, true, false, false, false, true, false, false] rfl rfl (take_ofW HT_.out HW_.out (by kernel_rfl)) (fun _ _ _ h => h) (Or.inl ⟨by rfl, ?_⟩) hHeld ?_ ?_
           rotate_left
           ·rintro w' ⟨s0, s1, s2, s3, s4, s5, s6, s7, s8, s9, s10⟩
            go_simp
            with_reducible rfl
           rotate_left
           ·simp only [Act.put, List.setIfInBounds_toArray, List.set_cons_zero, List.set_cons_succ, i64_w, i32_w]
            rfl
           refine take_ (i := 2) (N := some 32) (v := ?_) (a' := ?_) #[true, true, true, true, false, false, false, true, false, false] rfl rfl (take_ofW HT_.out HW_.out (by kernel_rfl)) (fun _ _ _ h => h) (Or.inl ⟨by rfl, ?_⟩) hHeld ?_ ?_
           rotate_left
           ·rintro w' ⟨s0, s1, s2, s3, s4, s5, s6, s7, s8, s9, s10⟩
            go_simp
            with_reducible rfl
           rotate_left
           ·simp only [Act.put, List.setIfInBounds_toArray, List.set_cons_zero, List.set_cons_succ, i64_w, i32_w]
            rfl
           refine pure_ (i := 4) (N := some 34) (v := ?_) (a' := ?_) #[true, true, true, true, true, false, false, true, false, false] rfl rfl (any_of HT_.out (by kernel_rfl)) (fun _ _ _ h => h) (Or.inl ⟨by rfl, ?_⟩) ?_ ?_
           rotate_left
           ·intro w'
            go_simp
            with_reducible rfl
           rotate_left
           ·simp only [Act.put, List.setIfInBounds_toArray, List.set_cons_zero, List.set_cons_succ, i64_w, i32_w]
            rfl
           refine pure_ (i := 5) (N := some 35) (v := ?_) (a' := ?_) #[true, true, true, true, true, true, false, true, false, false] rfl rfl (any_of HT_.out (by kernel_rfl)) (fun _ _ _ h => h) (Or.inl ⟨by rfl, ?_⟩) ?_ ?_
           rotate_left
           ·intro w'
            go_simp
            with_reducible rfl
           rotate_left
           ·simp only [Act.put, List.setIfInBounds_toArray, List.set_cons_zero, List.set_cons_succ, i64_w, i32_w]
            rfl
           refine take_ (i := 6) (N := some 36) (v := ?_) (a' := ?_) #[true, true, true, true, true, true, true, true, false, false] rfl rfl (take_ofW HT_.out HW_.out (by kernel_rfl)) (fun _ _ _ h => h) (Or.inl ⟨by rfl, ?_⟩) hHeld ?_ ?_
           rotate_left
           ·rintro w' ⟨s0, s1, s2, s3, s4, s5, s6, s7, s8, s9, s10⟩
            go_simp
            with_reducible rfl
           rotate_left
           ·simp only [Act.put, List.setIfInBounds_toArray, List.set_cons_zero, List.set_cons_succ, i64_w, i32_w]
            rfl
           refine one_ (i := 8) (N := some 38) #[true, true, true, true, true, true, true, true, true, false] rfl rfl (one_of HT_.out (by kernel_rfl)) (by decide) (fun K hK => ?_)
           refine goes_ Try.func86 (by kernel_rfl) rfl #[.agg #[.slice A0_0 l0_0.length c0_0, .slice A0_1 l0_1.length c0_1, .slice (some ad105) l0_2.length c0_2, .int .i64 a0_3], .int .i64 ((qH ((qj l0_2 a1).f4) x8_2).f1), .int .i64 a2] (by rfl) rfl rfl (by (try simp only [List.map_toArray, List.map_cons, List.map_nil]); first | done | rfl | (simp only [List.length_drop, List.length_take]; rfl)) ?_
           with_reducible refine (mimesisref23_Value.calls _ _ l0_0 _ _ l0_1 _ _ l0_2 a0_3 ((qH ((qj l0_2 a1).f4) x8_2).f1) a2 false _ ?side1 ?side2 ?side3 ?side4 ?side5 ?side6 A17.out).mono ?_
           (case side1 => repeat (first | exact (Kd.qn HR0_0.out HB.out) | (with_reducible refine Kd.qu ?_ _) | (with_reducible refine Kd.qv ?_ _) | (with_reducible refine Kd.qx ?_)))
           (case side2 => exact HC0_0.out)
           (case side3 => repeat (first | exact (Kd.qn HR0_1.out HB.out) | (with_reducible refine Kd.qu ?_ _) | (with_reducible refine Kd.qv ?_ _) | (with_reducible refine Kd.qx ?_)))
           (case side4 => exact HC0_1.out)
           (case side5 => repeat (first | exact (Kd.qn HR0_2.out HB.out) | (with_reducible refine Kd.qu ?_ _) | (with_reducible refine Kd.qv ?_ _) | (with_reducible refine Kd.qx ?_)))
           (case side6 => exact HC0_2.out)
           rintro e w26 ⟨rfl, hb⟩
           refine ⟨_, rfl, ?_⟩
           have n0_ := Aside0.mk (qo (g := gb104) (o := .cells #[.slice A0_0 l0_0.length c0_0, .slice A0_1 l0_1.length c0_1, .slice (some ad105) l0_2.length c0_2, .int .i64 a0_3] 26 (0, 0)) (by (with_reducible repeat (first | refine qg ?_ _ | refine qi ?_ | refine qf ?_ _)); exact BK104.out) hb)
           have n1_ := Aside0.mk (qo (g := gb106) (o := .cells #[.int .i64 ((qj l0_2 a1).f0), .int .u32 ((qj l0_2 a1).f1), .int .i64 ((qj l0_2 a1).f2), .int .i64 ((qj l0_2 a1).f3), .slice (some ad107) ((qj l0_2 a1).f4).length c105_4] 65 (0, 0)) (by (with_reducible repeat (first | refine qg ?_ _ | refine qi ?_ | refine qf ?_ _)); exact BK106.out) hb)
           have n2_ := Aside0.mk (qq (by repeat (first | (with_reducible first | exact HB.out | apply qe | apply qc | apply qd | refine qh ?_ GE104.out | refine qh ?_ GE106.out) | exact HB.out)) hb)
           clear BK104
           clear BK106
           clear HB
           have BK104 := n0_
           have BK106 := n1_
           have HB := n2_
           clear n0_ n1_ n2_
           (try clear hb)
           (try clear hb2)
           (try clear hk)
           (try clear hi)
           refine hK.out _ _ ⟨(qb BK104.out 0).trans rfl, (qb BK104.out 1).trans rfl, (qb BK104.out 2).trans rfl, (qb BK104.out 3).trans rfl, (qb BK106.out 0).trans rfl, (qb BK106.out 1).trans rfl, (qb BK106.out 2).trans rfl, (qb BK106.out 3).trans rfl, (qb BK106.out 4).trans rfl, ((HB.out.cell (blc9 w _ hw107_0)).trans hw107_0), ((HB.out.cell (blc9 w _ hw107_1)).trans hw107_1)⟩ (fun hHeld => ?_)
           clear hK K
           refine norm_ (a' := ?_) ?_ ?_
           rotate_left
           ·show Act.put _ (some 38) _ = _
            simp only [Act.put, List.setIfInBounds_toArray, List.set_cons_zero, List.set_cons_succ, i64_w, i32_w]
            rfl
           refine pure_ (i := 9) (N := some 39) (v := ?_) (a' := ?_) #[true, true, true, true, true, true, true, true, true, true] rfl rfl (any_of HT_.out (by kernel_rfl)) (fun _ _ _ h => h) (Or.inl ⟨by rfl, ?_⟩) ?_ ?_
           rotate_left
           ·intro w'
            go_simp
            with_reducible rfl
           rotate_left
           ·simp only [Act.put, List.setIfInBounds_toArray, List.set_cons_zero, List.set_cons_succ, i64_w, i32_w]
            rfl
           refine done_ (done_of HT_.out (by kernel_rfl)) ?_
           try go_wp2
           go_ret
           exact ⟨by first | rfl | (simp [ql, qm] <;> rfl) | (simp [*, ql, qm] <;> rfl), by repeat (first | (with_reducible first | exact HB.out | apply qe | apply qc | apply qd | refine qh ?_ GE104.out | refine qh ?_ GE106.out) | exact HB.out)⟩
         ·rw [if_neg c16] at H
          exact absurd H (by simp)
        ·rw [if_neg c15] at H
         have c15b0 : decide (x8_2 < (((qj l0_2 a1).f4).length : Int)) = false := decide_eq_false c15
         clear c15
         by_cases c27 : ((qj l0_2 a1).f2) = (-1)
         ·rw [if_pos c27] at H
          have c27b0 : (((qj l0_2 a1).f2) == (-1)) = true := beq_iff_eq.mpr c27
          have c27b1 : (((qj l0_2 a1).f2) != (-1)) = false := bne_eq_false_iff_eq.mpr c27
          clear c27
          obtain rfl := Option.some.inj H
          have hnb28 := NB106_104.out
          have hnc28 := NB104_106.out
          have hcz29_0 : wr.cell? ⟨gb106, 0, none⟩ = some (.int .i64 ((qj l0_2 a1).f0)) := (qb BK106.out 0).trans rfl
          have hcz29_1 : wr.cell? ⟨gb106, 1, none⟩ = some (.int .u32 ((qj l0_2 a1).f1)) := (qb BK106.out 1).trans rfl
          have hcz29_2 : wr.cell? ⟨gb106, 2, none⟩ = some (.int .i64 ((qj l0_2 a1).f2)) := (qb BK106.out 2).trans rfl
          have hcz29_3 : wr.cell? ⟨gb106, 3, none⟩ = some (.int .i64 ((qj l0_2 a1).f3)) := (qb BK106.out 3).trans rfl
          have hcz29_4 : wr.cell? ⟨gb106, 4, none⟩ = some (.slice A105_4 ((qj l0_2 a1).f4).length c105_4) := (qb BK106.out 4).trans rfl
          have hfz29_0 := qa BK106.out 0
          have hfz29_1 := qa BK106.out 1
          have hfz29_2 := qa BK106.out 2
          have hfz29_3 := qa BK106.out 3
          have hfz29_4 := qa BK106.out 4
          go_wp2
          go_ret
          exact ⟨by first | rfl | (simp [ql, qm] <;> rfl) | (simp [*, ql, qm] <;> rfl), by repeat (first | (with_reducible first | exact HB.out | apply qe | apply qc | apply qd | refine qh ?_ GE104.out | refine qh ?_ GE106.out) | exact HB.out)⟩
         ·rw [if_neg c27] at H
          have c27b0 : (((qj l0_2 a1).f2) == (-1)) = false := beq_eq_false_iff_ne.mpr c27
          have c27b1 : (((qj l0_2 a1).f2) != (-1)) = true := bne_iff_ne.mpr c27
          replace H := Option.bind_eq_some_iff.mp H
          obtain ⟨t109, A300, H⟩ := H
          replace H : (some t109) = some r := H
          have A30 := Aside0.mk A300
          clear A300
          obtain rfl := Option.some.inj H
          have hnb31 := NB106_104.out
          have hnc31 := NB104_106.out
          have hcz32_0 : wr.cell? ⟨gb106, 0, none⟩ = some (.int .i64 ((qj l0_2 a1).f0)) := (qb BK106.out 0).trans rfl
          have hcz32_1 : wr.cell? ⟨gb106, 1, none⟩ = some (.int .u32 ((qj l0_2 a1).f1)) := (qb BK106.out 1).trans rfl
          have hcz32_2 : wr.cell? ⟨gb106, 2, none⟩ = some (.int .i64 ((qj l0_2 a1).f2)) := (qb BK106.out 2).trans rfl
          have hcz32_3 : wr.cell? ⟨gb106, 3, none⟩ = some (.int .i64 ((qj l0_2 a1).f3)) := (qb BK106.out 3).trans rfl
          have hcz32_4 : wr.cell? ⟨gb106, 4, none⟩ = some (.slice A105_4 ((qj l0_2 a1).f4).length c105_4) := (qb BK106.out 4).trans rfl
          have hfz32_0 := qa BK106.out 0
          have hfz32_1 := qa BK106.out 1
          have hfz32_2 := qa BK106.out 2
          have hfz32_3 := qa BK106.out 3
          have hfz32_4 := qa BK106.out 4
          have hcz33_0 : wr.cell? ⟨gb104, 0, none⟩ = some (.slice A0_0 l0_0.length c0_0) := (qb BK104.out 0).trans rfl
          have hcz33_1 : wr.cell? ⟨gb104, 1, none⟩ = some (.slice A0_1 l0_1.length c0_1) := (qb BK104.out 1).trans rfl
          have hcz33_2 : wr.cell? ⟨gb104, 2, none⟩ = some (.slice (some ad105) l0_2.length c0_2) := (qb BK104.out 2).trans rfl
          have hcz33_3 : wr.cell? ⟨gb104, 3, none⟩ = some (.int .i64 a0_3) := (qb BK104.out 3).trans rfl
          have hfz33_0 := qa BK104.out 0
          have hfz33_1 := qa BK104.out 1
          have hfz33_2 := qa BK104.out 2
          have hfz33_3 := qa BK104.out 3
          go_wp2_with (first | (go_at_call 86; (with_reducible refine (mimesisref23_Value.calls _ _ l0_0 _ _ l0_1 _ _ l0_2 a0_3 ((qj l0_2 a1).f2) a2 t109 _ ?side1 ?side2 ?side3 ?side4 ?side5 ?side6 A30.out).mono ?_); (case side1 => repeat (first | exact (Kd.qn HR0_0.out HB.out) | (with_reducible refine Kd.qu ?_ _) | (with_reducible refine Kd.qv ?_ _) | (with_reducible refine Kd.qx ?_))); (case side2 => exact HC0_0.out); (case side3 => repeat (first | exact (Kd.qn HR0_1.out HB.out) | (with_reducible refine Kd.qu ?_ _) | (with_reducible refine Kd.qv ?_ _) | (with_reducible refine Kd.qx ?_))); (case side4 => exact HC0_1.out); (case side5 => repeat (first | exact (Kd.qn HR0_2.out HB.out) | (with_reducible refine Kd.qu ?_ _) | (with_reducible refine Kd.qv ?_ _) | (with_reducible refine Kd.qx ?_))); (case side6 => exact HC0_2.out); rintro e w34 ⟨rfl, hb⟩; have n0_ := Aside0.mk (qo (g := gb104) (o := .cells #[.slice A0_0 l0_0.length c0_0, .slice A0_1 l0_1.length c0_1, .slice (some ad105) l0_2.length c0_2, .int .i64 a0_3] 26 (0, 0)) (by (with_reducible repeat (first | refine qg ?_ _ | refine qi ?_ | refine qf ?_ _)); exact BK104.out) hb); have n1_ := Aside0.mk (qo (g := gb106) (o := .cells #[.int .i64 ((qj l0_2 a1).f0), .int .u32 ((qj l0_2 a1).f1), .int .i64 ((qj l0_2 a1).f2), .int .i64 ((qj l0_2 a1).f3), .slice A105_4 ((qj l0_2 a1).f4).length c105_4] 65 (0, 0)) (by (with_reducible repeat (first | refine qg ?_ _ | refine qi ?_ | refine qf ?_ _)); exact BK106.out) hb); have n2_ := Aside0.mk (qq (by repeat (first | (with_reducible first | exact HB.out | apply qe | apply qc | apply qd | refine qh ?_ GE104.out | refine qh ?_ GE106.out) | exact HB.out)) hb); clear BK104; clear BK106; clear HB; have BK104 := n0_; have BK106 := n1_; have HB := n2_; clear n0_ n1_ n2_; (try clear hb); (try clear hb2); (try clear hk); (try clear hi)))
          go_ret
          exact ⟨by first | rfl | (simp [ql, qm] <;> rfl) | (simp [*, ql, qm] <;> rfl), by repeat (first | (with_reducible first | exact HB.out | apply qe | apply qc | apply qd | refine qh ?_ GE104.out | refine qh ?_ GE106.out) | exact HB.out)⟩
     ·rw [if_neg c10] at H
      exact absurd H (by simp)
    ·rw [if_neg c9] at H
     exact absurd H (by simp)

end Go.Proofs.Ythjgakoofmmloaa.PNumberDoes
