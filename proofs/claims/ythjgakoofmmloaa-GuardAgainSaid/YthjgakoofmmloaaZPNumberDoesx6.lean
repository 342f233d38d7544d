/- Proved: contracts of single functions, and words for them, as the kit's print has printed them; names shortened. Conditions: those that each theorem names. -/
import Derived.Test.YthjgakoofmmloaaZPNumberDoesx0
import Derived.Test.YthjgakoofmmloaaZPNumberDoesx3
namespace Go.Proofs.Ythjgakoofmmloaa.PNumberDoes
open Go.RowKit Go.Proofs.YthjgakoofmmloaaW.PrintWords Go.Proofs.YthjgakoofmmloaaW.PrintLast Go.Proofs.YthjgakoofmmloaaW.PrintMore
attribute [local go_sem] max2_int min2_int max_two min_two qQ qR max_four min_four
set_option linter.unusedVariables false
set_option linter.unusedSimpArgs false

mutual
def mimesisref23_leaves.j0 : Nat → Bool → Int → Int → Int → Int → List (S85) → Option (Bool)
 | 0, _, _, _, _, _, _ => none
 | k + 1, x47, x132000, x132001, x132002, x132003, x132004 => if x47 = true then (some false) else (mimesisref23_leaves.l0 k 0 x132000 x132001 x132002 x132003 x132004)
def mimesisref23_leaves.l0 : Nat → Int → Int → Int → Int → Int → List (S85) → Option (Bool)
 | 0, _, _, _, _, _, _ => none
 | k + 1, x6, x132000, x132001, x132002, x132003, x132004 => if x6 < (x132004.length : Int) then (if 0 ≤ x6 then (if ((qH x132004 x6).f0) < 1 then (some false) else (if ((qH x132004 x6).f0) > 31 then (some false) else (if x6 > 0 then (if 0 ≤ (wrap64 (x6 - 1)) then (if (wrap64 (x6 - 1)) < (x132004.length : Int) then (if ((qH x132004 x6).f0) ≤ ((qH x132004 (wrap64 (x6 - 1))).f0) then (some false) else (mimesisref23_leaves.l0 k (wrap64 (x6 + 1)) x132000 x132001 x132002 x132003 x132004)) else (none)) else (none)) else (mimesisref23_leaves.l0 k (wrap64 (x6 + 1)) x132000 x132001 x132002 x132003 x132004)))) else (none)) else (some true)
end
def mimesisref23_leaves.f (k : Nat) (l0_0 : List Int) (l0_1 : List (S62)) (l0_2 : List (S65)) (a0_3 : Int) (a1 : Int) : Option (Bool) := if 0 ≤ a1 then (if a1 < (l0_2.length : Int) then ((mimesisref23_exit.f k l0_0 l0_1 l0_2 a0_3 a1 (l0_1.length : Int)).bind fun t132 => (if t132 = true then (if ((qj l0_2 a1).f0) < 0 then (mimesisref23_leaves.j0 k true ((qj l0_2 a1).f0) ((qj l0_2 a1).f1) ((qj l0_2 a1).f2) ((qj l0_2 a1).f3) ((qj l0_2 a1).f4)) else (if ((qj l0_2 a1).f0) > (l0_0.length : Int) then (mimesisref23_leaves.j0 k true ((qj l0_2 a1).f0) ((qj l0_2 a1).f1) ((qj l0_2 a1).f2) ((qj l0_2 a1).f3) ((qj l0_2 a1).f4)) else (if (Int.tmod ((qj l0_2 a1).f1) 4) = 0 then (if ((qj l0_2 a1).f3) < 1 then (mimesisref23_leaves.j0 k true ((qj l0_2 a1).f0) ((qj l0_2 a1).f1) ((qj l0_2 a1).f2) ((qj l0_2 a1).f3) ((qj l0_2 a1).f4)) else (mimesisref23_leaves.j0 k (decide (((qj l0_2 a1).f3) > 4)) ((qj l0_2 a1).f0) ((qj l0_2 a1).f1) ((qj l0_2 a1).f2) ((qj l0_2 a1).f3) ((qj l0_2 a1).f4))) else (mimesisref23_leaves.j0 k true ((qj l0_2 a1).f0) ((qj l0_2 a1).f1) ((qj l0_2 a1).f2) ((qj l0_2 a1).f3) ((qj l0_2 a1).f4))))) else (mimesisref23_leaves.j0 k true ((qj l0_2 a1).f0) ((qj l0_2 a1).f1) ((qj l0_2 a1).f2) ((qj l0_2 a1).f3) ((qj l0_2 a1).f4)))) else (none)) else (none)
set_option maxHeartbeats 8000000 in
set_option maxRecDepth 100000 in
theorem mimesisref23_leaves.calls (k : Nat) (A0_0 : Option Addr) (c0_0 : Nat) (l0_0 : List Int) (A0_1 : Option Addr) (c0_1 : Nat) (l0_1 : List (S62)) (A0_2 : Option Addr) (c0_2 : Nat) (l0_2 : List (S65)) (a0_3 : Int) (a1 : Int) (r : Bool) (w : World) (hr0_0 : Kd.C (Kd.int .u32) w A0_0 l0_0.length l0_0) (hc0_0 : l0_0.length ≤ c0_0) (hr0_1 : Kd.C k62 w A0_1 l0_1.length l0_1) (hc0_1 : l0_1.length ≤ c0_1) (hr0_2 : Kd.C k65 w A0_2 l0_2.length l0_2) (hc0_2 : l0_2.length ≤ c0_2) (h : mimesisref23_leaves.f k l0_0 l0_1 l0_2 a0_3 a1 = some r) :
  Calls Try.prog 48 #[.agg #[.slice A0_0 l0_0.length c0_0, .slice A0_1 l0_1.length c0_1, .slice A0_2 l0_2.length c0_2, .int .i64 a0_3], .int .i64 a1] w fun e w' => e = .returned (.bool r) ∧ Below w.heap.size w w' := by
 have hu26 := Try.underlying26
 have hu65 := Try.underlying65
 have HR0_0 := Aside0.mk hr0_0
 have HC0_0 := Aside0.mk hc0_0
 clear hr0_0 hc0_0
 have HR0_1 := Aside0.mk hr0_1
 have HC0_1 := Aside0.mk hc0_1
 clear hr0_1 hc0_1
 have HR0_2 := Aside0.mk hr0_2
 have HC0_2 := Aside0.mk hc0_2
 clear hr0_2 hc0_2
 have HB := Aside0.mk (Below.refl w.heap.size w)
 have H : (if 0 ≤ a1 then (if a1 < (l0_2.length : Int) then ((mimesisref23_exit.f k l0_0 l0_1 l0_2 a0_3 a1 (l0_1.length : Int)).bind fun t132 => (if t132 = true then (if ((qj l0_2 a1).f0) < 0 then (mimesisref23_leaves.j0 k true ((qj l0_2 a1).f0) ((qj l0_2 a1).f1) ((qj l0_2 a1).f2) ((qj l0_2 a1).f3) ((qj l0_2 a1).f4)) else (if ((qj l0_2 a1).f0) > (l0_0.length : Int) then (mimesisref23_leaves.j0 k true ((qj l0_2 a1).f0) ((qj l0_2 a1).f1) ((qj l0_2 a1).f2) ((qj l0_2 a1).f3) ((qj l0_2 a1).f4)) else (if (Int.tmod ((qj l0_2 a1).f1) 4) = 0 then (if ((qj l0_2 a1).f3) < 1 then (mimesisref23_leaves.j0 k true ((qj l0_2 a1).f0) ((qj l0_2 a1).f1) ((qj l0_2 a1).f2) ((qj l0_2 a1).f3) ((qj l0_2 a1).f4)) else (mimesisref23_leaves.j0 k (decide (((qj l0_2 a1).f3) > 4)) ((qj l0_2 a1).f0) ((qj l0_2 a1).f1) ((qj l0_2 a1).f2) ((qj l0_2 a1).f3) ((qj l0_2 a1).f4))) else (mimesisref23_leaves.j0 k true ((qj l0_2 a1).f0) ((qj l0_2 a1).f1) ((qj l0_2 a1).f2) ((qj l0_2 a1).f3) ((qj l0_2 a1).f4))))) else (mimesisref23_leaves.j0 k true ((qj l0_2 a1).f0) ((qj l0_2 a1).f1) ((qj l0_2 a1).f2) ((qj l0_2 a1).f3) ((qj l0_2 a1).f4)))) else (none)) else (none)) = some r := h
 clear h
 by_cases c3 : 0 ≤ a1
 ·rw [if_pos c3] at H
  have c3b0 : decide (0 ≤ a1) = true := decide_eq_true c3
  clear c3
  by_cases c4 : a1 < (l0_2.length : Int)
  ·rw [if_pos c4] at H
   have c4b0 : decide (a1 < (l0_2.length : Int)) = true := decide_eq_true c4
   clear c4
   have HC5 := Aside0.mk H
   clear H
   go_enter Try.func48, Try.ntmps48
   go_upto_region 2 with (first | ((with_reducible refine qB (N := 2) rfl ?_); (try (refine qP (by rfl) ?_; dsimp only)); refine qA ?hg (N := 2) ?hd (cs := #[.slice A0_0 l0_0.length c0_0, .slice A0_1 l0_1.length c0_1, .slice A0_2 l0_2.length c0_2, .int .i64 a0_3]) (t := 26) ?hr ?_; (case hd => rfl); (case hg => rfl); (case hr => first | (go_simp; done) | (go_simp; rfl)); intro gb129 hg w6 hbox hb; have n0_ := Aside0.mk (qq (by repeat (first | (with_reducible first | exact HB.out | apply qe | apply qc | apply qd) | exact HB.out)) hb); have n1_ := Aside0.mk (hbox); have n2_ := Aside0.mk ((by rw [hg]; exact (qr (by repeat (first | (with_reducible first | exact HB.out | apply qe | apply qc | apply qd) | exact HB.out))) : w.heap.size ≤ gb129)); have n3_ := Aside0.mk ((by rw [hg]; exact (qr (by repeat (first | (with_reducible first | exact HB.out | apply qe | apply qc | apply qd) | exact HB.out))) : w.heap.size ≤ gb129)); clear HB; have HB := n0_; have BK129 := n1_; have GW129 := n2_; have GE129 := n3_; clear n0_ n1_ n2_ n3_; clear hb hbox hg; have hcz7_0 : w6.cell? ⟨gb129, 0, none⟩ = some (.slice A0_0 l0_0.length c0_0) := (qb BK129.out 0).trans rfl; have hcz7_1 : w6.cell? ⟨gb129, 1, none⟩ = some (.slice A0_1 l0_1.length c0_1) := (qb BK129.out 1).trans rfl; have hcz7_2 : w6.cell? ⟨gb129, 2, none⟩ = some (.slice A0_2 l0_2.length c0_2) := (qb BK129.out 2).trans rfl; have hcz7_3 : w6.cell? ⟨gb129, 3, none⟩ = some (.int .i64 a0_3) := (qb BK129.out 3).trans rfl; have hfz7_0 := qa BK129.out 0; have hfz7_1 := qa BK129.out 1; have hfz7_2 := qa BK129.out 2; have hfz7_3 := qa BK129.out 3; have p130 : 0 ≤ (a1 : Int) := of_decide_eq_true (by assumption); have q130 : a1 < (l0_2.length : Int) := of_decide_eq_true (by assumption); obtain ⟨ad130, A130_4, c130_4, e130, hx130_0, hx130_1, hx130_2, hx130_3, hx130_4, hl130_4, hi130_4⟩ := at_T65 HR0_2.out a1 p130 q130; cases e130; replace hx130_0 := (HB.out.cell (blc9 w _ hx130_0)).trans hx130_0; replace hx130_1 := (HB.out.cell (blc9 w _ hx130_1)).trans hx130_1; replace hx130_2 := (HB.out.cell (blc9 w _ hx130_2)).trans hx130_2; replace hx130_3 := (HB.out.cell (blc9 w _ hx130_3)).trans hx130_3; replace hx130_4 := (HB.out.cell (blc9 w _ hx130_4)).trans hx130_4; have HR130_4 := Aside0.mk hi130_4; have HC130_4 := Aside0.mk hl130_4; clear hi130_4 hl130_4; replace p130 := eq_true p130; replace q130 := eq_true q130) | ((with_reducible refine qB (N := 5) rfl ?_); (try (refine qP (by rfl) ?_; dsimp only)); refine qA ?hg (N := 5) ?hd (cs := #[.int .i64 0, .int .u32 0, .int .i64 0, .int .i64 0, .slice none 0 0]) (t := 65) ?hr ?_; (case hd => rfl); (case hg => rfl); (case hr => first | (go_simp; done) | (go_simp; rfl)); intro gb131 hg w8 hbox hb; have n0_ := Aside0.mk (qo (g := gb129) (o := .cells #[.slice A0_0 l0_0.length c0_0, .slice A0_1 l0_1.length c0_1, .slice (some ad130) l0_2.length c0_2, .int .i64 a0_3] 26 (0, 0)) (by (with_reducible repeat (first | refine qg ?_ _ | refine qi ?_ | refine qf ?_ _)); exact BK129.out) hb); have n1_ := Aside0.mk (qq (by repeat (first | (with_reducible first | exact HB.out | apply qe | apply qc | apply qd | refine qh ?_ GE129.out) | exact HB.out)) hb); have n2_ := Aside0.mk (hbox); have n3_ := Aside0.mk ((by rw [hg]; exact (qr (by repeat (first | (with_reducible first | exact HB.out | apply qe | apply qc | apply qd | refine qh ?_ GE129.out) | exact HB.out))) : w.heap.size ≤ gb131)); have n4_ := Aside0.mk ((by rw [hg]; exact (qr (by repeat (first | (with_reducible first | exact HB.out | apply qe | apply qc | apply qd | refine qh ?_ GE129.out) | exact HB.out))) : w.heap.size ≤ gb131)); have n5_ := Aside0.mk ((by rw [hg]; exact nne9 (qG (g := gb129) (o := .cells #[.slice A0_0 l0_0.length c0_0, .slice A0_1 l0_1.length c0_1, .slice (some ad130) l0_2.length c0_2, .int .i64 a0_3] 26 (0, 0)) (by (with_reducible repeat (first | refine qg ?_ _ | refine qi ?_ | refine qf ?_ _)); exact BK129.out)) : gb129 ≠ gb131)); have n6_ := Aside0.mk ((by rw [hg]; exact Nat.ne_of_gt (qG (g := gb129) (o := .cells #[.slice A0_0 l0_0.length c0_0, .slice A0_1 l0_1.length c0_1, .slice (some ad130) l0_2.length c0_2, .int .i64 a0_3] 26 (0, 0)) (by (with_reducible repeat (first | refine qg ?_ _ | refine qi ?_ | refine qf ?_ _)); exact BK129.out)) : gb131 ≠ gb129)); clear BK129; clear HB; have BK129 := n0_; have HB := n1_; have BK131 := n2_; have GW131 := n3_; have GE131 := n4_; have NB129_131 := n5_; have NB131_129 := n6_; clear n0_ n1_ n2_ n3_ n4_ n5_ n6_; clear hb hbox hg; have hnb9 := NB131_129.out; have hnc9 := NB129_131.out; have hcz10_0 : w8.cell? ⟨gb131, 0, none⟩ = some (.int .i64 0) := (qb BK131.out 0).trans rfl; have hcz10_1 : w8.cell? ⟨gb131, 1, none⟩ = some (.int .u32 0) := (qb BK131.out 1).trans rfl; have hcz10_2 : w8.cell? ⟨gb131, 2, none⟩ = some (.int .i64 0) := (qb BK131.out 2).trans rfl; have hcz10_3 : w8.cell? ⟨gb131, 3, none⟩ = some (.int .i64 0) := (qb BK131.out 3).trans rfl; have hcz10_4 : w8.cell? ⟨gb131, 4, none⟩ = some (.slice none 0 0) := (qb BK131.out 4).trans rfl; have hfz10_0 := qa BK131.out 0; have hfz10_1 := qa BK131.out 1; have hfz10_2 := qa BK131.out 2; have hfz10_3 := qa BK131.out 3; have hfz10_4 := qa BK131.out 4))
   repeat (go_quiet (first | ((with_reducible refine qB (N := 2) rfl ?_); (try (refine qP (by rfl) ?_; dsimp only)); refine qA ?hg (N := 2) ?hd (cs := #[.slice A0_0 l0_0.length c0_0, .slice A0_1 l0_1.length c0_1, .slice A0_2 l0_2.length c0_2, .int .i64 a0_3]) (t := 26) ?hr ?_; (case hd => rfl); (case hg => rfl); (case hr => first | (go_simp; done) | (go_simp; rfl)); intro gb129 hg w6 hbox hb; have n0_ := Aside0.mk (qq (by repeat (first | (with_reducible first | exact HB.out | apply qe | apply qc | apply qd) | exact HB.out)) hb); have n1_ := Aside0.mk (hbox); have n2_ := Aside0.mk ((by rw [hg]; exact (qr (by repeat (first | (with_reducible first | exact HB.out | apply qe | apply qc | apply qd) | exact HB.out))) : w.heap.size ≤ gb129)); have n3_ := Aside0.mk ((by rw [hg]; exact (qr (by repeat (first | (with_reducible first | exact HB.out | apply qe | apply qc | apply qd) | exact HB.out))) : w.heap.size ≤ gb129)); clear HB; have HB := n0_; have BK129 := n1_; have GW129 := n2_; have GE129 := n3_; clear n0_ n1_ n2_ n3_; clear hb hbox hg; have hcz7_0 : w6.cell? ⟨gb129, 0, none⟩ = some (.slice A0_0 l0_0.length c0_0) := (qb BK129.out 0).trans rfl; have hcz7_1 : w6.cell? ⟨gb129, 1, none⟩ = some (.slice A0_1 l0_1.length c0_1) := (qb BK129.out 1).trans rfl; have hcz7_2 : w6.cell? ⟨gb129, 2, none⟩ = some (.slice A0_2 l0_2.length c0_2) := (qb BK129.out 2).trans rfl; have hcz7_3 : w6.cell? ⟨gb129, 3, none⟩ = some (.int .i64 a0_3) := (qb BK129.out 3).trans rfl; have hfz7_0 := qa BK129.out 0; have hfz7_1 := qa BK129.out 1; have hfz7_2 := qa BK129.out 2; have hfz7_3 := qa BK129.out 3; have p130 : 0 ≤ (a1 : Int) := of_decide_eq_true (by assumption); have q130 : a1 < (l0_2.length : Int) := of_decide_eq_true (by assumption); obtain ⟨ad130, A130_4, c130_4, e130, hx130_0, hx130_1, hx130_2, hx130_3, hx130_4, hl130_4, hi130_4⟩ := at_T65 HR0_2.out a1 p130 q130; cases e130; replace hx130_0 := (HB.out.cell (blc9 w _ hx130_0)).trans hx130_0; replace hx130_1 := (HB.out.cell (blc9 w _ hx130_1)).trans hx130_1; replace hx130_2 := (HB.out.cell (blc9 w _ hx130_2)).trans hx130_2; replace hx130_3 := (HB.out.cell (blc9 w _ hx130_3)).trans hx130_3; replace hx130_4 := (HB.out.cell (blc9 w _ hx130_4)).trans hx130_4; have HR130_4 := Aside0.mk hi130_4; have HC130_4 := Aside0.mk hl130_4; clear hi130_4 hl130_4; replace p130 := eq_true p130; replace q130 := eq_true q130) | ((with_reducible refine qB (N := 5) rfl ?_); (try (refine qP (by rfl) ?_; dsimp only)); refine qA ?hg (N := 5) ?hd (cs := #[.int .i64 0, .int .u32 0, .int .i64 0, .int .i64 0, .slice none 0 0]) (t := 65) ?hr ?_; (case hd => rfl); (case hg => rfl); (case hr => first | (go_simp; done) | (go_simp; rfl)); intro gb131 hg w8 hbox hb; have n0_ := Aside0.mk (qo (g := gb129) (o := .cells #[.slice A0_0 l0_0.length c0_0, .slice A0_1 l0_1.length c0_1, .slice (some ad130) l0_2.length c0_2, .int .i64 a0_3] 26 (0, 0)) (by (with_reducible repeat (first | refine qg ?_ _ | refine qi ?_ | refine qf ?_ _)); exact BK129.out) hb); have n1_ := Aside0.mk (qq (by repeat (first | (with_reducible first | exact HB.out | apply qe | apply qc | apply qd | refine qh ?_ GE129.out) | exact HB.out)) hb); have n2_ := Aside0.mk (hbox); have n3_ := Aside0.mk ((by rw [hg]; exact (qr (by repeat (first | (with_reducible first | exact HB.out | apply qe | apply qc | apply qd | refine qh ?_ GE129.out) | exact HB.out))) : w.heap.size ≤ gb131)); have n4_ := Aside0.mk ((by rw [hg]; exact (qr (by repeat (first | (with_reducible first | exact HB.out | apply qe | apply qc | apply qd | refine qh ?_ GE129.out) | exact HB.out))) : w.heap.size ≤ gb131)); have n5_ := Aside0.mk ((by rw [hg]; exact nne9 (qG (g := gb129) (o := .cells #[.slice A0_0 l0_0.length c0_0, .slice A0_1 l0_1.length c0_1, .slice (some ad130) l0_2.length c0_2, .int .i64 a0_3] 26 (0, 0)) (by (with_reducible repeat (first | refine qg ?_ _ | refine qi ?_ | refine qf ?_ _)); exact BK129.out)) : gb129 ≠ gb131)); have n6_ := Aside0.mk ((by rw [hg]; exact Nat.ne_of_gt (qG (g := gb129) (o := .cells #[.slice A0_0 l0_0.length c0_0, .slice A0_1 l0_1.length c0_1, .slice (some ad130) l0_2.length c0_2, .int .i64 a0_3] 26 (0, 0)) (by (with_reducible repeat (first | refine qg ?_ _ | refine qi ?_ | refine qf ?_ _)); exact BK129.out)) : gb131 ≠ gb129)); clear BK129; clear HB; have BK129 := n0_; have HB := n1_; have BK131 := n2_; have GW131 := n3_; have GE131 := n4_; have NB129_131 := n5_; have NB131_129 := n6_; clear n0_ n1_ n2_ n3_ n4_ n5_ n6_; clear hb hbox hg; have hnb9 := NB131_129.out; have hnc9 := NB129_131.out; have hcz10_0 : w8.cell? ⟨gb131, 0, none⟩ = some (.int .i64 0) := (qb BK131.out 0).trans rfl; have hcz10_1 : w8.cell? ⟨gb131, 1, none⟩ = some (.int .u32 0) := (qb BK131.out 1).trans rfl; have hcz10_2 : w8.cell? ⟨gb131, 2, none⟩ = some (.int .i64 0) := (qb BK131.out 2).trans rfl; have hcz10_3 : w8.cell? ⟨gb131, 3, none⟩ = some (.int .i64 0) := (qb BK131.out 3).trans rfl; have hcz10_4 : w8.cell? ⟨gb131, 4, none⟩ = some (.slice none 0 0) := (qb BK131.out 4).trans rfl; have hfz10_0 := qa BK131.out 0; have hfz10_1 := qa BK131.out 1; have hfz10_2 := qa BK131.out 2; have hfz10_3 := qa BK131.out 3; have hfz10_4 := qa BK131.out 4)); go_upto_region 2 with (first | ((with_reducible refine qB (N := 2) rfl ?_); (try (refine qP (by rfl) ?_; dsimp only)); refine qA ?hg (N := 2) ?hd (cs := #[.slice A0_0 l0_0.length c0_0, .slice A0_1 l0_1.length c0_1, .slice A0_2 l0_2.length c0_2, .int .i64 a0_3]) (t := 26) ?hr ?_; (case hd => rfl); (case hg => rfl); (case hr => first | (go_simp; done) | (go_simp; rfl)); intro gb129 hg w6 hbox hb; have n0_ := Aside0.mk (qq (by repeat (first | (with_reducible first | exact HB.out | apply qe | apply qc | apply qd) | exact HB.out)) hb); have n1_ := Aside0.mk (hbox); have n2_ := Aside0.mk ((by rw [hg]; exact (qr (by repeat (first | (with_reducible first | exact HB.out | apply qe | apply qc | apply qd) | exact HB.out))) : w.heap.size ≤ gb129)); have n3_ := Aside0.mk ((by rw [hg]; exact (qr (by repeat (first | (with_reducible first | exact HB.out | apply qe | apply qc | apply qd) | exact HB.out))) : w.heap.size ≤ gb129)); clear HB; have HB := n0_; have BK129 := n1_; have GW129 := n2_; have GE129 := n3_; clear n0_ n1_ n2_ n3_; clear hb hbox hg; have hcz7_0 : w6.cell? ⟨gb129, 0, none⟩ = some (.slice A0_0 l0_0.length c0_0) := (qb BK129.out 0).trans rfl; have hcz7_1 : w6.cell? ⟨gb129, 1, none⟩ = some (.slice A0_1 l0_1.length c0_1) := (qb BK129.out 1).trans rfl; have hcz7_2 : w6.cell? ⟨gb129, 2, none⟩ = some (.slice A0_2 l0_2.length c0_2) := (qb BK129.out 2).trans rfl; have hcz7_3 : w6.cell? ⟨gb129, 3, none⟩ = some (.int .i64 a0_3) := (qb BK129.out 3).trans rfl; have hfz7_0 := qa BK129.out 0; have hfz7_1 := qa BK129.out 1; have hfz7_2 := qa BK129.out 2; have hfz7_3 := qa BK129.out 3; have p130 : 0 ≤ (a1 : Int) := of_decide_eq_true (by assumption); have q130 : a1 < (l0_2.length : Int) := of_decide_eq_true (by assumption); obtain ⟨ad130, A130_4, c130_4, e130, hx130_0, hx130_1, hx130_2, hx130_3, hx130_4, hl130_4, hi130_4⟩ := at_T65 HR0_2.out a1 p130 q130; cases e130; replace hx130_0 := (HB.out.cell (blc9 w _ hx130_0)).trans hx130_0; replace hx130_1 := (HB.out.cell (blc9 w _ hx130_1)).trans hx130_1; replace hx130_2 := (HB.out.cell (blc9 w _ hx130_2)).trans hx130_2; replace hx130_3 := (HB.out.cell (blc9 w _ hx130_3)).trans hx130_3; replace hx130_4 := (HB.out.cell (blc9 w _ hx130_4)).trans hx130_4; have HR130_4 := Aside0.mk hi130_4; have HC130_4 := Aside0.mk hl130_4; clear hi130_4 hl130_4; replace p130 := eq_true p130; replace q130 := eq_true q130) | ((with_reducible refine qB (N := 5) rfl ?_); (try (refine qP (by rfl) ?_; dsimp only)); refine qA ?hg (N := 5) ?hd (cs := #[.int .i64 0, .int .u32 0, .int .i64 0, .int .i64 0, .slice none 0 0]) (t := 65) ?hr ?_; (case hd => rfl); (case hg => rfl); (case hr => first | (go_simp; done) | (go_simp; rfl)); intro gb131 hg w8 hbox hb; have n0_ := Aside0.mk (qo (g := gb129) (o := .cells #[.slice A0_0 l0_0.length c0_0, .slice A0_1 l0_1.length c0_1, .slice (some ad130) l0_2.length c0_2, .int .i64 a0_3] 26 (0, 0)) (by (with_reducible repeat (first | refine qg ?_ _ | refine qi ?_ | refine qf ?_ _)); exact BK129.out) hb); have n1_ := Aside0.mk (qq (by repeat (first | (with_reducible first | exact HB.out | apply qe | apply qc | apply qd | refine qh ?_ GE129.out) | exact HB.out)) hb); have n2_ := Aside0.mk (hbox); have n3_ := Aside0.mk ((by rw [hg]; exact (qr (by repeat (first | (with_reducible first | exact HB.out | apply qe | apply qc | apply qd | refine qh ?_ GE129.out) | exact HB.out))) : w.heap.size ≤ gb131)); have n4_ := Aside0.mk ((by rw [hg]; exact (qr (by repeat (first | (with_reducible first | exact HB.out | apply qe | apply qc | apply qd | refine qh ?_ GE129.out) | exact HB.out))) : w.heap.size ≤ gb131)); have n5_ := Aside0.mk ((by rw [hg]; exact nne9 (qG (g := gb129) (o := .cells #[.slice A0_0 l0_0.length c0_0, .slice A0_1 l0_1.length c0_1, .slice (some ad130) l0_2.length c0_2, .int .i64 a0_3] 26 (0, 0)) (by (with_reducible repeat (first | refine qg ?_ _ | refine qi ?_ | refine qf ?_ _)); exact BK129.out)) : gb129 ≠ gb131)); have n6_ := Aside0.mk ((by rw [hg]; exact Nat.ne_of_gt (qG (g := gb129) (o := .cells #[.slice A0_0 l0_0.length c0_0, .slice A0_1 l0_1.length c0_1, .slice (some ad130) l0_2.length c0_2, .int .i64 a0_3] 26 (0, 0)) (by (with_reducible repeat (first | refine qg ?_ _ | refine qi ?_ | refine qf ?_ _)); exact BK129.out)) : gb131 ≠ gb129)); clear BK129; clear HB; have BK129 := n0_; have HB := n1_; have BK131 := n2_; have GW131 := n3_; have GE131 := n4_; have NB129_131 := n5_; have NB131_129 := n6_; clear n0_ n1_ n2_ n3_ n4_ n5_ n6_; clear hb hbox hg; have hnb9 := NB131_129.out; have hnc9 := NB129_131.out; have hcz10_0 : w8.cell? ⟨gb131, 0, none⟩ = some (.int .i64 0) := (qb BK131.out 0).trans rfl; have hcz10_1 : w8.cell? ⟨gb131, 1, none⟩ = some (.int .u32 0) := (qb BK131.out 1).trans rfl; have hcz10_2 : w8.cell? ⟨gb131, 2, none⟩ = some (.int .i64 0) := (qb BK131.out 2).trans rfl; have hcz10_3 : w8.cell? ⟨gb131, 3, none⟩ = some (.int .i64 0) := (qb BK131.out 3).trans rfl; have hcz10_4 : w8.cell? ⟨gb131, 4, none⟩ = some (.slice none 0 0) := (qb BK131.out 4).trans rfl; have hfz10_0 := qa BK131.out 0; have hfz10_1 := qa BK131.out 1; have hfz10_2 := qa BK131.out 2; have hfz10_3 := qa BK131.out 3; have hfz10_4 := qa BK131.out 4)))
   (try simp only [Act.put, List.setIfInBounds_toArray, List.set_cons_zero, List.set_cons_succ])
   go_cut [47] (fun v47 wc => ∃ (kq : Nat) (x47_4 : Bool), v47 = .bool x47_4 ∧ Aside0 (mimesisref23_leaves.j0 kq x47_4 ((qj l0_2 a1).f0) ((qj l0_2 a1).f1) ((qj l0_2 a1).f2) ((qj l0_2 a1).f3) ((qj l0_2 a1).f4) = some r) ∧ Aside0 (kq ≤ k) ∧ Aside0 (wc.heap[gb129]? = some (.cells #[(.slice A0_0 l0_0.length c0_0), (.slice A0_1 l0_1.length c0_1), (.slice (some ad130) l0_2.length c0_2), .int .i64 a0_3] 26 (0, 0))) ∧ Aside0 (wc.heap[gb131]? = some (.cells #[.int .i64 ((qj l0_2 a1).f0), .int .u32 ((qj l0_2 a1).f1), .int .i64 ((qj l0_2 a1).f2), .int .i64 ((qj l0_2 a1).f3), (.slice A130_4 ((qj l0_2 a1).f4).length c130_4)] 65 (0, 0))) ∧ Aside0 (Below w.heap.size w wc))
   case first =>
    have H := HC5.out
    clear HC5
    replace H := Option.bind_eq_some_iff.mp H
    obtain ⟨t132, A110, H⟩ := H
    replace H : (if t132 = true then (if ((qj l0_2 a1).f0) < 0 then (mimesisref23_leaves.j0 k true ((qj l0_2 a1).f0) ((qj l0_2 a1).f1) ((qj l0_2 a1).f2) ((qj l0_2 a1).f3) ((qj l0_2 a1).f4)) else (if ((qj l0_2 a1).f0) > (l0_0.length : Int) then (mimesisref23_leaves.j0 k true ((qj l0_2 a1).f0) ((qj l0_2 a1).f1) ((qj l0_2 a1).f2) ((qj l0_2 a1).f3) ((qj l0_2 a1).f4)) else (if (Int.tmod ((qj l0_2 a1).f1) 4) = 0 then (if ((qj l0_2 a1).f3) < 1 then (mimesisref23_leaves.j0 k true ((qj l0_2 a1).f0) ((qj l0_2 a1).f1) ((qj l0_2 a1).f2) ((qj l0_2 a1).f3) ((qj l0_2 a1).f4)) else (mimesisref23_leaves.j0 k (decide (((qj l0_2 a1).f3) > 4)) ((qj l0_2 a1).f0) ((qj l0_2 a1).f1) ((qj l0_2 a1).f2) ((qj l0_2 a1).f3) ((qj l0_2 a1).f4))) else (mimesisref23_leaves.j0 k true ((qj l0_2 a1).f0) ((qj l0_2 a1).f1) ((qj l0_2 a1).f2) ((qj l0_2 a1).f3) ((qj l0_2 a1).f4))))) else (mimesisref23_leaves.j0 k true ((qj l0_2 a1).f0) ((qj l0_2 a1).f1) ((qj l0_2 a1).f2) ((qj l0_2 a1).f3) ((qj l0_2 a1).f4))) = some r := H
    have A11 := Aside0.mk A110
    clear A110
    by_cases c12 : t132 = true
    ·subst c12
     have H1 : (if ((qj l0_2 a1).f0) < 0 then (mimesisref23_leaves.j0 k true ((qj l0_2 a1).f0) ((qj l0_2 a1).f1) ((qj l0_2 a1).f2) ((qj l0_2 a1).f3) ((qj l0_2 a1).f4)) else (if ((qj l0_2 a1).f0) > (l0_0.length : Int) then (mimesisref23_leaves.j0 k true ((qj l0_2 a1).f0) ((qj l0_2 a1).f1) ((qj l0_2 a1).f2) ((qj l0_2 a1).f3) ((qj l0_2 a1).f4)) else (if (Int.tmod ((qj l0_2 a1).f1) 4) = 0 then (if ((qj l0_2 a1).f3) < 1 then (mimesisref23_leaves.j0 k true ((qj l0_2 a1).f0) ((qj l0_2 a1).f1) ((qj l0_2 a1).f2) ((qj l0_2 a1).f3) ((qj l0_2 a1).f4)) else (mimesisref23_leaves.j0 k (decide (((qj l0_2 a1).f3) > 4)) ((qj l0_2 a1).f0) ((qj l0_2 a1).f1) ((qj l0_2 a1).f2) ((qj l0_2 a1).f3) ((qj l0_2 a1).f4))) else (mimesisref23_leaves.j0 k true ((qj l0_2 a1).f0) ((qj l0_2 a1).f1) ((qj l0_2 a1).f2) ((qj l0_2 a1).f3) ((qj l0_2 a1).f4))))) = some r := by rw [if_pos rfl] at H; exact H
     clear H
     have H := H1
     clear H1
     by_cases c13 : ((qj l0_2 a1).f0) < 0
     ·rw [if_pos c13] at H
      have c13b0 : decide (((qj l0_2 a1).f0) < 0) = true := decide_eq_true c13
      clear c13
      (first | rw [c13b0] | (simp only [i64_w, i32_w]; rw [c13b0]) | skip)
      have H' := Aside0.mk H
      clear H
      have hnb14 := NB129_131.out
      have hnc14 := NB131_129.out
      have hcz15_0 : w8.cell? ⟨gb129, 0, none⟩ = some (.slice A0_0 l0_0.length c0_0) := (qb BK129.out 0).trans rfl
      have hcz15_1 : w8.cell? ⟨gb129, 1, none⟩ = some (.slice A0_1 l0_1.length c0_1) := (qb BK129.out 1).trans rfl
      have hcz15_2 : w8.cell? ⟨gb129, 2, none⟩ = some (.slice (some ad130) l0_2.length c0_2) := (qb BK129.out 2).trans rfl
      have hcz15_3 : w8.cell? ⟨gb129, 3, none⟩ = some (.int .i64 a0_3) := (qb BK129.out 3).trans rfl
      have hfz15_0 := qa BK129.out 0
      have hfz15_1 := qa BK129.out 1
      have hfz15_2 := qa BK129.out 2
      have hfz15_3 := qa BK129.out 3
      go_wp2_with (first | (go_at_call 49; (with_reducible refine (mimesisref23_exit.calls k _ _ l0_0 _ _ l0_1 _ _ l0_2 a0_3 a1 (l0_1.length : Int) true _ ?side1 ?side2 ?side3 ?side4 ?side5 ?side6 A11.out).mono ?_); (case side1 => exact Kd.qn HR0_0.out (by repeat (first | (with_reducible first | exact HB.out | apply qe | apply qc | apply qd | refine qh ?_ GE129.out | refine qh ?_ GE131.out) | exact HB.out))); (case side2 => exact HC0_0.out); (case side3 => exact Kd.qn HR0_1.out (by repeat (first | (with_reducible first | exact HB.out | apply qe | apply qc | apply qd | refine qh ?_ GE129.out | refine qh ?_ GE131.out) | exact HB.out))); (case side4 => exact HC0_1.out); (case side5 => exact Kd.qn HR0_2.out (by repeat (first | (with_reducible first | exact HB.out | apply qe | apply qc | apply qd | refine qh ?_ GE129.out | refine qh ?_ GE131.out) | exact HB.out))); (case side6 => exact HC0_2.out); rintro e w16 ⟨rfl, hb⟩; have n0_ := Aside0.mk (qo (g := gb129) (o := .cells #[.slice A0_0 l0_0.length c0_0, .slice A0_1 l0_1.length c0_1, .slice (some ad130) l0_2.length c0_2, .int .i64 a0_3] 26 (0, 0)) (by (with_reducible repeat (first | refine qg ?_ _ | refine qi ?_ | refine qf ?_ _)); refine qp ?_ NB129_131.out _; (with_reducible repeat (first | refine qg ?_ _ | refine qi ?_ | refine qf ?_ _)); refine qp ?_ NB129_131.out _; (with_reducible repeat (first | refine qg ?_ _ | refine qi ?_ | refine qf ?_ _)); refine qp ?_ NB129_131.out _; (with_reducible repeat (first | refine qg ?_ _ | refine qi ?_ | refine qf ?_ _)); refine qp ?_ NB129_131.out _; (with_reducible repeat (first | refine qg ?_ _ | refine qi ?_ | refine qf ?_ _)); refine qp ?_ NB129_131.out _; (with_reducible repeat (first | refine qg ?_ _ | refine qi ?_ | refine qf ?_ _)); exact BK129.out) hb); have n1_ := Aside0.mk (qo (g := gb131) (o := .cells #[.int .i64 ((qj l0_2 a1).f0), .int .u32 ((qj l0_2 a1).f1), .int .i64 ((qj l0_2 a1).f2), .int .i64 ((qj l0_2 a1).f3), .slice A130_4 ((qj l0_2 a1).f4).length c130_4] 65 (0, 0)) (by (with_reducible repeat (first | refine qg ?_ _ | refine qi ?_ | refine qf ?_ _)); refine qt (cs := #[.int .i64 ((qj l0_2 a1).f0), .int .u32 ((qj l0_2 a1).f1), .int .i64 ((qj l0_2 a1).f2), .int .i64 ((qj l0_2 a1).f3), .slice none 0 0]) ?_ 4 _ rfl; (with_reducible repeat (first | refine qg ?_ _ | refine qi ?_ | refine qf ?_ _)); refine qt (cs := #[.int .i64 ((qj l0_2 a1).f0), .int .u32 ((qj l0_2 a1).f1), .int .i64 ((qj l0_2 a1).f2), .int .i64 0, .slice none 0 0]) ?_ 3 _ rfl; (with_reducible repeat (first | refine qg ?_ _ | refine qi ?_ | refine qf ?_ _)); refine qt (cs := #[.int .i64 ((qj l0_2 a1).f0), .int .u32 ((qj l0_2 a1).f1), .int .i64 0, .int .i64 0, .slice none 0 0]) ?_ 2 _ rfl; (with_reducible repeat (first | refine qg ?_ _ | refine qi ?_ | refine qf ?_ _)); refine qt (cs := #[.int .i64 ((qj l0_2 a1).f0), .int .u32 0, .int .i64 0, .int .i64 0, .slice none 0 0]) ?_ 1 _ rfl; (with_reducible repeat (first | refine qg ?_ _ | refine qi ?_ | refine qf ?_ _)); refine qt (cs := #[.int .i64 0, .int .u32 0, .int .i64 0, .int .i64 0, .slice none 0 0]) ?_ 0 _ rfl; (with_reducible repeat (first | refine qg ?_ _ | refine qi ?_ | refine qf ?_ _)); exact BK131.out) hb); have n2_ := Aside0.mk (qq (by repeat (first | (with_reducible first | exact HB.out | apply qe | apply qc | apply qd | refine qh ?_ GE129.out | refine qh ?_ GE131.out) | exact HB.out)) hb); clear BK129; clear BK131; clear HB; have BK129 := n0_; have BK131 := n1_; have HB := n2_; clear n0_ n1_ n2_; (try clear hb); (try clear hb2); (try clear hk); (try clear hi); have hcz17_0 : w16.cell? ⟨gb131, 0, none⟩ = some (.int .i64 ((qj l0_2 a1).f0)) := (qb BK131.out 0).trans rfl; have hcz17_1 : w16.cell? ⟨gb131, 1, none⟩ = some (.int .u32 ((qj l0_2 a1).f1)) := (qb BK131.out 1).trans rfl; have hcz17_2 : w16.cell? ⟨gb131, 2, none⟩ = some (.int .i64 ((qj l0_2 a1).f2)) := (qb BK131.out 2).trans rfl; have hcz17_3 : w16.cell? ⟨gb131, 3, none⟩ = some (.int .i64 ((qj l0_2 a1).f3)) := (qb BK131.out 3).trans rfl; have hcz17_4 : w16.cell? ⟨gb131, 4, none⟩ = some (.slice A130_4 ((qj l0_2 a1).f4).length c130_4) := (qb BK131.out 4).trans rfl; have hfz17_0 := qa BK131.out 0; have hfz17_1 := qa BK131.out 1; have hfz17_2 := qa BK131.out 2; have hfz17_3 := qa BK131.out 3; have hfz17_4 := qa BK131.out 4))
      repeat (go_quiet (first | (go_at_call 49; (with_reducible refine (mimesisref23_exit.calls k _ _ l0_0 _ _ l0_1 _ _ l0_2 a0_3 a1 (l0_1.length : Int) true _ ?side1 ?side2 ?side3 ?side4 ?side5 ?side6 A11.out).mono ?_); (case side1 => exact Kd.qn HR0_0.out (by repeat (first | (with_reducible first | exact HB.out | apply qe | apply qc | apply qd | refine qh ?_ GE129.out | refine qh ?_ GE131.out) | exact HB.out))); (case side2 => exact HC0_0.out); (case side3 => exact Kd.qn HR0_1.out (by repeat (first | (with_reducible first | exact HB.out | apply qe | apply qc | apply qd | refine qh ?_ GE129.out | refine qh ?_ GE131.out) | exact HB.out))); (case side4 => exact HC0_1.out); (case side5 => exact Kd.qn HR0_2.out (by repeat (first | (with_reducible first | exact HB.out | apply qe | apply qc | apply qd | refine qh ?_ GE129.out | refine qh ?_ GE131.out) | exact HB.out))); (case side6 => exact HC0_2.out); rintro e w16 ⟨rfl, hb⟩; have n0_ := Aside0.mk (qo (g := gb129) (o := .cells #[.slice A0_0 l0_0.length c0_0, .slice A0_1 l0_1.length c0_1, .slice (some ad130) l0_2.length c0_2, .int .i64 a0_3] 26 (0, 0)) (by (with_reducible repeat (first | refine qg ?_ _ | refine qi ?_ | refine qf ?_ _)); refine qp ?_ NB129_131.out _; (with_reducible repeat (first | refine qg ?_ _ | refine qi ?_ | refine qf ?_ _)); refine qp ?_ NB129_131.out _; (with_reducible repeat (first | refine qg ?_ _ | refine qi ?_ | refine qf ?_ _)); refine qp ?_ NB129_131.out _; (with_reducible repeat (first | refine qg ?_ _ | refine qi ?_ | refine qf ?_ _)); refine qp ?_ NB129_131.out _; (with_reducible repeat (first | refine qg ?_ _ | refine qi ?_ | refine qf ?_ _)); refine qp ?_ NB129_131.out _; (with_reducible repeat (first | refine qg ?_ _ | refine qi ?_ | refine qf ?_ _)); exact BK129.out) hb); have n1_ := Aside0.mk (qo (g := gb131) (o := .cells #[.int .i64 ((qj l0_2 a1).f0), .int .u32 ((qj l0_2 a1).f1), .int .i64 ((qj l0_2 a1).f2), .int .i64 ((qj l0_2 a1).f3), .slice A130_4 ((qj l0_2 a1).f4).length c130_4] 65 (0, 0)) (by (with_reducible repeat (first | refine qg ?_ _ | refine qi ?_ | refine qf ?_ _)); refine qt (cs := #[.int .i64 ((qj l0_2 a1).f0), .int .u32 ((qj l0_2 a1).f1), .int .i64 ((qj l0_2 a1).f2), .int .i64 ((qj l0_2 a1).f3), .slice none 0 0]) ?_ 4 _ rfl; (with_reducible repeat (first | refine qg ?_ _ | refine qi ?_ | refine qf ?_ _)); refine qt (cs := #[.int .i64 ((qj l0_2 a1).f0), .int .u32 ((qj l0_2 a1).f1), .int .i64 ((qj l0_2 a1).f2), .int .i64 0, .slice none 0 0]) ?_ 3 _ rfl; (with_reducible repeat (first | refine qg ?_ _ | refine qi ?_ | refine qf ?_ _)); refine qt (cs := #[.int .i64 ((qj l0_2 a1).f0), .int .u32 ((qj l0_2 a1).f1), .int .i64 0, .int .i64 0, .slice none 0 0]) ?_ 2 _ rfl; (with_reducible repeat (first | refine qg ?_ _ | refine qi ?_ | refine qf ?_ _)); refine qt (cs := #[.int .i64 ((qj l0_2 a1).f0), .int .u32 0, .int .i64 0, .int .i64 0, .slice none 0 0]) ?_ 1 _ rfl; (with_reducible repeat (first | refine qg ?_ _ | refine qi ?_ | refine qf ?_ _)); refine qt (cs := #[.int .i64 0, .int .u32 0, .int .i64 0, .int .i64 0, .slice none 0 0]) ?_ 0 _ rfl; (with_reducible repeat (first | refine qg ?_ _ | refine qi ?_ | refine qf ?_ _)); exact BK131.out) hb); have n2_ := Aside0.mk (qq (by repeat (first | (with_reducible first | exact HB.out | apply qe | apply qc | apply qd | refine qh ?_ GE129.out | refine qh ?_ GE131.out) | exact HB.out)) hb); clear BK129; clear BK131; clear HB; have BK129 := n0_; have BK131 := n1_; have HB := n2_; clear n0_ n1_ n2_; (try clear hb); (try clear hb2); (try clear hk); (try clear hi); have hcz17_0 : w16.cell? ⟨gb131, 0, none⟩ = some (.int .i64 ((qj l0_2 a1).f0)) := (qb BK131.out 0).trans rfl; have hcz17_1 : w16.cell? ⟨gb131, 1, none⟩ = some (.int .u32 ((qj l0_2 a1).f1)) := (qb BK131.out 1).trans rfl; have hcz17_2 : w16.cell? ⟨gb131, 2, none⟩ = some (.int .i64 ((qj l0_2 a1).f2)) := (qb BK131.out 2).trans rfl; have hcz17_3 : w16.cell? ⟨gb131, 3, none⟩ = some (.int .i64 ((qj l0_2 a1).f3)) := (qb BK131.out 3).trans rfl; have hcz17_4 : w16.cell? ⟨gb131, 4, none⟩ = some (.slice A130_4 ((qj l0_2 a1).f4).length c130_4) := (qb BK131.out 4).trans rfl; have hfz17_0 := qa BK131.out 0; have hfz17_1 := qa BK131.out 1; have hfz17_2 := qa BK131.out 2; have hfz17_3 := qa BK131.out 3; have hfz17_4 := qa BK131.out 4)); try go_wp2_with (first | (go_at_call 49; (with_reducible refine (mimesisref23_exit.calls k _ _ l0_0 _ _ l0_1 _ _ l0_2 a0_3 a1 (l0_1.length : Int) true _ ?side1 ?side2 ?side3 ?side4 ?side5 ?side6 A11.out).mono ?_); (case side1 => exact Kd.qn HR0_0.out (by repeat (first | (with_reducible first | exact HB.out | apply qe | apply qc | apply qd | refine qh ?_ GE129.out | refine qh ?_ GE131.out) | exact HB.out))); (case side2 => exact HC0_0.out); (case side3 => exact Kd.qn HR0_1.out (by repeat (first | (with_reducible first | exact HB.out | apply qe | apply qc | apply qd | refine qh ?_ GE129.out | refine qh ?_ GE131.out) | exact HB.out))); (case side4 => exact HC0_1.out); (case side5 => exact Kd.qn HR0_2.out (by repeat (first | (with_reducible first | exact HB.out | apply qe | apply qc | apply qd | refine qh ?_ GE129.out | refine qh ?_ GE131.out) | exact HB.out))); (case side6 => exact HC0_2.out); rintro e w16 ⟨rfl, hb⟩; have n0_ := Aside0.mk (qo (g := gb129) (o := .cells #[.slice A0_0 l0_0.length c0_0, .slice A0_1 l0_1.length c0_1, .slice (some ad130) l0_2.length c0_2, .int .i64 a0_3] 26 (0, 0)) (by (with_reducible repeat (first | refine qg ?_ _ | refine qi ?_ | refine qf ?_ _)); refine qp ?_ NB129_131.out _; (with_reducible repeat (first | refine qg ?_ _ | refine qi ?_ | refine qf ?_ _)); refine qp ?_ NB129_131.out _; (with_reducible repeat (first | refine qg ?_ _ | refine qi ?_ | refine qf ?_ _)); refine qp ?_ NB129_131.out _; (with_reducible repeat (first | refine qg ?_ _ | refine qi ?_ | refine qf ?_ _)); refine qp ?_ NB129_131.out _; (with_reducible repeat (first | refine qg ?_ _ | refine qi ?_ | refine qf ?_ _)); refine qp ?_ NB129_131.out _; (with_reducible repeat (first | refine qg ?_ _ | refine qi ?_ | refine qf ?_ _)); exact BK129.out) hb); have n1_ := Aside0.mk (qo (g := gb131) (o := .cells #[.int .i64 ((qj l0_2 a1).f0), .int .u32 ((qj l0_2 a1).f1), .int .i64 ((qj l0_2 a1).f2), .int .i64 ((qj l0_2 a1).f3), .slice A130_4 ((qj l0_2 a1).f4).length c130_4] 65 (0, 0)) (by (with_reducible repeat (first | refine qg ?_ _ | refine qi ?_ | refine qf ?_ _)); refine qt (cs := #[.int .i64 ((qj l0_2 a1).f0), .int .u32 ((qj l0_2 a1).f1), .int .i64 ((qj l0_2 a1).f2), .int .i64 ((qj l0_2 a1).f3), .slice none 0 0]) ?_ 4 _ rfl; (with_reducible repeat (first | refine qg ?_ _ | refine qi ?_ | refine qf ?_ _)); refine qt (cs := #[.int .i64 ((qj l0_2 a1).f0), .int .u32 ((qj l0_2 a1).f1), .int .i64 ((qj l0_2 a1).f2), .int .i64 0, .slice none 0 0]) ?_ 3 _ rfl; (with_reducible repeat (first | refine qg ?_ _ | refine qi ?_ | refine qf ?_ _)); refine qt (cs := #[.int .i64 ((qj l0_2 a1).f0), .int .u32 ((qj l0_2 a1).f1), .int .i64 0, .int .i64 0, .slice none 0 0]) ?_ 2 _ rfl; (with_reducible repeat (first | refine qg ?_ _ | refine qi ?_ | refine qf ?_ _)); refine qt (cs := #[.int .i64 ((qj l0_2 a1).f0), .int .u32 0, .int .i64 0, .int .i64 0, .slice none 0 0]) ?_ 1 _ rfl; (with_reducible repeat (first | refine qg ?_ _ | refine qi ?_ | refine qf ?_ _)); refine qt (cs := #[.int .i64 0, .int .u32 0, .int .i64 0, .int .i64 0, .slice none 0 0]) ?_ 0 _ rfl; (with_reducible repeat (first | refine qg ?_ _ | refine qi ?_ | refine qf ?_ _)); exact BK131.out) hb); have n2_ := Aside0.mk (qq (by repeat (first | (with_reducible first | exact HB.out | apply qe | apply qc | apply qd | refine qh ?_ GE129.out | refine qh ?_ GE131.out) | exact HB.out)) hb); clear BK129; clear BK131; clear HB; have BK129 := n0_; have BK131 := n1_; have HB := n2_; clear n0_ n1_ n2_; (try clear hb); (try clear hb2); (try clear hk); (try clear hi); have hcz17_0 : w16.cell? ⟨gb131, 0, none⟩ = some (.int .i64 ((qj l0_2 a1).f0)) := (qb BK131.out 0).trans rfl; have hcz17_1 : w16.cell? ⟨gb131, 1, none⟩ = some (.int .u32 ((qj l0_2 a1).f1)) := (qb BK131.out 1).trans rfl; have hcz17_2 : w16.cell? ⟨gb131, 2, none⟩ = some (.int .i64 ((qj l0_2 a1).f2)) := (qb BK131.out 2).trans rfl; have hcz17_3 : w16.cell? ⟨gb131, 3, none⟩ = some (.int .i64 ((qj l0_2 a1).f3)) := (qb BK131.out 3).trans rfl; have hcz17_4 : w16.cell? ⟨gb131, 4, none⟩ = some (.slice A130_4 ((qj l0_2 a1).f4).length c130_4) := (qb BK131.out 4).trans rfl; have hfz17_0 := qa BK131.out 0; have hfz17_1 := qa BK131.out 1; have hfz17_2 := qa BK131.out 2; have hfz17_3 := qa BK131.out 3; have hfz17_4 := qa BK131.out 4)))
      go_meet
      case rel => exact ⟨_, (true), (by first | rfl | (simp; done) | (simp [*]; done)), H', ⟨by first | omega | exact Nat.le_refl _⟩, ⟨by (with_reducible repeat (first | refine qg ?_ _ | refine qi ?_ | refine qf ?_ _)); exact BK129.out⟩, ⟨by (with_reducible repeat (first | refine qg ?_ _ | refine qi ?_ | refine qf ?_ _)); exact BK131.out⟩, ⟨by repeat (first | (with_reducible first | exact HB.out | apply qe | apply qc | apply qd | refine qh ?_ GE129.out | refine qh ?_ GE131.out) | exact HB.out)⟩⟩
     ·rw [if_neg c13] at H
      have c13b0 : decide (((qj l0_2 a1).f0) < 0) = false := decide_eq_false c13
      clear c13
      (first | rw [c13b0] | (simp only [i64_w, i32_w]; rw [c13b0]) | skip)
      by_cases c18 : ((qj l0_2 a1).f0) > (l0_0.length : Int)
      ·rw [if_pos c18] at H
       have c18b0 : decide ((l0_0.length : Int) < ((qj l0_2 a1).f0)) = true := decide_eq_true c18
       clear c18
       have H' := Aside0.mk H
       clear H
       have hnb19 := NB129_131.out
       have hnc19 := NB131_129.out
       have hcz20_0 : w8.cell? ⟨gb129, 0, none⟩ = some (.slice A0_0 l0_0.length c0_0) := (qb BK129.out 0).trans rfl
       have hcz20_1 : w8.cell? ⟨gb129, 1, none⟩ = some (.slice A0_1 l0_1.length c0_1) := (qb BK129.out 1).trans rfl
       have hcz20_2 : w8.cell? ⟨gb129, 2, none⟩ = some (.slice (some ad130) l0_2.length c0_2) := (qb BK129.out 2).trans rfl
       have hcz20_3 : w8.cell? ⟨gb129, 3, none⟩ = some (.int .i64 a0_3) := (qb BK129.out 3).trans rfl
       have hfz20_0 := qa BK129.out 0
       have hfz20_1 := qa BK129.out 1
       have hfz20_2 := qa BK129.out 2
       have hfz20_3 := qa BK129.out 3
       go_wp2_with (first | (go_at_call 49; (with_reducible refine (mimesisref23_exit.calls k _ _ l0_0 _ _ l0_1 _ _ l0_2 a0_3 a1 (l0_1.length : Int) true _ ?side1 ?side2 ?side3 ?side4 ?side5 ?side6 A11.out).mono ?_); (case side1 => exact Kd.qn HR0_0.out (by repeat (first | (with_reducible first | exact HB.out | apply qe | apply qc | apply qd | refine qh ?_ GE129.out | refine qh ?_ GE131.out) | exact HB.out))); (case side2 => exact HC0_0.out); (case side3 => exact Kd.qn HR0_1.out (by repeat (first | (with_reducible first | exact HB.out | apply qe | apply qc | apply qd | refine qh ?_ GE129.out | refine qh ?_ GE131.out) | exact HB.out))); (case side4 => exact HC0_1.out); (case side5 => exact Kd.qn HR0_2.out (by repeat (first | (with_reducible first | exact HB.out | apply qe | apply qc | apply qd | refine qh ?_ GE129.out | refine qh ?_ GE131.out) | exact HB.out))); (case side6 => exact HC0_2.out); rintro e w21 ⟨rfl, hb⟩; have n0_ := Aside0.mk (qo (g := gb129) (o := .cells #[.slice A0_0 l0_0.length c0_0, .slice A0_1 l0_1.length c0_1, .slice (some ad130) l0_2.length c0_2, .int .i64 a0_3] 26 (0, 0)) (by (with_reducible repeat (first | refine qg ?_ _ | refine qi ?_ | refine qf ?_ _)); refine qp ?_ NB129_131.out _; (with_reducible repeat (first | refine qg ?_ _ | refine qi ?_ | refine qf ?_ _)); refine qp ?_ NB129_131.out _; (with_reducible repeat (first | refine qg ?_ _ | refine qi ?_ | refine qf ?_ _)); refine qp ?_ NB129_131.out _; (with_reducible repeat (first | refine qg ?_ _ | refine qi ?_ | refine qf ?_ _)); refine qp ?_ NB129_131.out _; (with_reducible repeat (first | refine qg ?_ _ | refine qi ?_ | refine qf ?_ _)); refine qp ?_ NB129_131.out _; (with_reducible repeat (first | refine qg ?_ _ | refine qi ?_ | refine qf ?_ _)); exact BK129.out) hb); have n1_ := Aside0.mk (qo (g := gb131) (o := .cells #[.int .i64 ((qj l0_2 a1).f0), .int .u32 ((qj l0_2 a1).f1), .int .i64 ((qj l0_2 a1).f2), .int .i64 ((qj l0_2 a1).f3), .slice A130_4 ((qj l0_2 a1).f4).length c130_4] 65 (0, 0)) (by (with_reducible repeat (first | refine qg ?_ _ | refine qi ?_ | refine qf ?_ _)); refine qt (cs := #[.int .i64 ((qj l0_2 a1).f0), .int .u32 ((qj l0_2 a1).f1), .int .i64 ((qj l0_2 a1).f2), .int .i64 ((qj l0_2 a1).f3), .slice none 0 0]) ?_ 4 _ rfl; (with_reducible repeat (first | refine qg ?_ _ | refine qi ?_ | refine qf ?_ _)); refine qt (cs := #[.int .i64 ((qj l0_2 a1).f0), .int .u32 ((qj l0_2 a1).f1), .int .i64 ((qj l0_2 a1).f2), .int .i64 0, .slice none 0 0]) ?_ 3 _ rfl; (with_reducible repeat (first | refine qg ?_ _ | refine qi ?_ | refine qf ?_ _)); refine qt (cs := #[.int .i64 ((qj l0_2 a1).f0), .int .u32 ((qj l0_2 a1).f1), .int .i64 0, .int .i64 0, .slice none 0 0]) ?_ 2 _ rfl; (with_reducible repeat (first | refine qg ?_ _ | refine qi ?_ | refine qf ?_ _)); refine qt (cs := #[.int .i64 ((qj l0_2 a1).f0), .int .u32 0, .int .i64 0, .int .i64 0, .slice none 0 0]) ?_ 1 _ rfl; (with_reducible repeat (first | refine qg ?_ _ | refine qi ?_ | refine qf ?_ _)); refine qt (cs := #[.int .i64 0, .int .u32 0, .int .i64 0, .int .i64 0, .slice none 0 0]) ?_ 0 _ rfl; (with_reducible repeat (first | refine qg ?_ _ | refine qi ?_ | refine qf ?_ _)); exact BK131.out) hb); have n2_ := Aside0.mk (qq (by repeat (first | (with_reducible first | exact HB.out | apply qe | apply qc | apply qd | refine qh ?_ GE129.out | refine qh ?_ GE131.out) | exact HB.out)) hb); clear BK129; clear BK131; clear HB; have BK129 := n0_; have BK131 := n1_; have HB := n2_; clear n0_ n1_ n2_; (try clear hb); (try clear hb2); (try clear hk); (try clear hi); have hcz22_0 : w21.cell? ⟨gb131, 0, none⟩ = some (.int .i64 ((qj l0_2 a1).f0)) := (qb BK131.out 0).trans rfl; have hcz22_1 : w21.cell? ⟨gb131, 1, none⟩ = some (.int .u32 ((qj l0_2 a1).f1)) := (qb BK131.out 1).trans rfl; have hcz22_2 : w21.cell? ⟨gb131, 2, none⟩ = some (.int .i64 ((qj l0_2 a1).f2)) := (qb BK131.out 2).trans rfl; have hcz22_3 : w21.cell? ⟨gb131, 3, none⟩ = some (.int .i64 ((qj l0_2 a1).f3)) := (qb BK131.out 3).trans rfl; have hcz22_4 : w21.cell? ⟨gb131, 4, none⟩ = some (.slice A130_4 ((qj l0_2 a1).f4).length c130_4) := (qb BK131.out 4).trans rfl; have hfz22_0 := qa BK131.out 0; have hfz22_1 := qa BK131.out 1; have hfz22_2 := qa BK131.out 2; have hfz22_3 := qa BK131.out 3; have hfz22_4 := qa BK131.out 4; have hcz23_0 : w21.cell? ⟨gb129, 0, none⟩ = some (.slice A0_0 l0_0.length c0_0) := (qb BK129.out 0).trans rfl; have hcz23_1 : w21.cell? ⟨gb129, 1, none⟩ = some (.slice A0_1 l0_1.length c0_1) := (qb BK129.out 1).trans rfl; have hcz23_2 : w21.cell? ⟨gb129, 2, none⟩ = some (.slice (some ad130) l0_2.length c0_2) := (qb BK129.out 2).trans rfl; have hcz23_3 : w21.cell? ⟨gb129, 3, none⟩ = some (.int .i64 a0_3) := (qb BK129.out 3).trans rfl; have hfz23_0 := qa BK129.out 0; have hfz23_1 := qa BK129.out 1; have hfz23_2 := qa BK129.out 2; have hfz23_3 := qa BK129.out 3))
       repeat (go_quiet (first | (go_at_call 49; (with_reducible refine (mimesisref23_exit.calls k _ _ l0_0 _ _ l0_1 _ _ l0_2 a0_3 a1 (l0_1.length : Int) true _ ?side1 ?side2 ?side3 ?side4 ?side5 ?side6 A11.out).mono ?_); (case side1 => exact Kd.qn HR0_0.out (by repeat (first | (with_reducible first | exact HB.out | apply qe | apply qc | apply qd | refine qh ?_ GE129.out | refine qh ?_ GE131.out) | exact HB.out))); (case side2 => exact HC0_0.out); (case side3 => exact Kd.qn HR0_1.out (by repeat (first | (with_reducible first | exact HB.out | apply qe | apply qc | apply qd | refine qh ?_ GE129.out | refine qh ?_ GE131.out) | exact HB.out))); (case side4 => exact HC0_1.out); (case side5 => exact Kd.qn HR0_2.out (by repeat (first | (with_reducible first | exact HB.out | apply qe | apply qc | apply qd | refine qh ?_ GE129.out | refine qh ?_ GE131.out) | exact HB.out))); (case side6 => exact HC0_2.out); rintro e w21 ⟨rfl, hb⟩; have n0_ := Aside0.mk (qo (g := gb129) (o := .cells #[.slice A0_0 l0_0.length c0_0, .slice A0_1 l0_1.length c0_1, .slice (some ad130) l0_2.length c0_2, .int .i64 a0_3] 26 (0, 0)) (by (with_reducible repeat (first | refine qg ?_ _ | refine qi ?_ | refine qf ?_ _)); refine qp ?_ NB129_131.out _; (with_reducible repeat (first | refine qg ?_ _ | refine qi ?_ | refine qf ?_ _)); refine qp ?_ NB129_131.out _; (with_reducible repeat (first | refine qg ?_ _ | refine qi ?_ | refine qf ?_ _)); refine qp ?_ NB129_131.out _; (with_reducible repeat (first | refine qg ?_ _ | refine qi ?_ | refine qf ?_ _)); refine qp ?_ NB129_131.out _; (with_reducible repeat (first | refine qg ?_ _ | refine qi ?_ | refine qf ?_ _)); refine qp ?_ NB129_131.out _; (with_reducible repeat (first | refine qg ?_ _ | refine qi ?_ | refine qf ?_ _)); exact BK129.out) hb); have n1_ := Aside0.mk (qo (g := gb131) (o := .cells #[.int .i64 ((qj l0_2 a1).f0), .int .u32 ((qj l0_2 a1).f1), .int .i64 ((qj l0_2 a1).f2), .int .i64 ((qj l0_2 a1).f3), .slice A130_4 ((qj l0_2 a1).f4).length c130_4] 65 (0, 0)) (by (with_reducible repeat (first | refine qg ?_ _ | refine qi ?_ | refine qf ?_ _)); refine qt (cs := #[.int .i64 ((qj l0_2 a1).f0), .int .u32 ((qj l0_2 a1).f1), .int .i64 ((qj l0_2 a1).f2), .int .i64 ((qj l0_2 a1).f3), .slice none 0 0]) ?_ 4 _ rfl; (with_reducible repeat (first | refine qg ?_ _ | refine qi ?_ | refine qf ?_ _)); refine qt (cs := #[.int .i64 ((qj l0_2 a1).f0), .int .u32 ((qj l0_2 a1).f1), .int .i64 ((qj l0_2 a1).f2), .int .i64 0, .slice none 0 0]) ?_ 3 _ rfl; (with_reducible repeat (first | refine qg ?_ _ | refine qi ?_ | refine qf ?_ _)); refine qt (cs := #[.int .i64 ((qj l0_2 a1).f0), .int .u32 ((qj l0_2 a1).f1), .int .i64 0, .int .i64 0, .slice none 0 0]) ?_ 2 _ rfl; (with_reducible repeat (first | refine qg ?_ _ | refine qi ?_ | refine qf ?_ _)); refine qt (cs := #[.int .i64 ((qj l0_2 a1).f0), .int .u32 0, .int .i64 0, .int .i64 0, .slice none 0 0]) ?_ 1 _ rfl; (with_reducible repeat (first | refine qg ?_ _ | refine qi ?_ | refine qf ?_ _)); refine qt (cs := #[.int .i64 0, .int .u32 0, .int .i64 0, .int .i64 0, .slice none 0 0]) ?_ 0 _ rfl; (with_reducible repeat (first | refine qg ?_ _ | refine qi ?_ | refine qf ?_ _)); exact BK131.out) hb); have n2_ := Aside0.mk (qq (by repeat (first | (with_reducible first | exact HB.out | apply qe | apply qc | apply qd | refine qh ?_ GE129.out | refine qh ?_ GE131.out) | exact HB.out)) hb); clear BK129; clear BK131; clear HB; have BK129 := n0_; have BK131 := n1_; have HB := n2_; clear n0_ n1_ n2_; (try clear hb); (try clear hb2); (try clear hk); (try clear hi); have hcz22_0 : w21.cell? ⟨gb131, 0, none⟩ = some (.int .i64 ((qj l0_2 a1).f0)) := (qb BK131.out 0).trans rfl; have hcz22_1 : w21.cell? ⟨gb131, 1, none⟩ = some (.int .u32 ((qj l0_2 a1).f1)) := (qb BK131.out 1).trans rfl; have hcz22_2 : w21.cell? ⟨gb131, 2, none⟩ = some (.int .i64 ((qj l0_2 a1).f2)) := (qb BK131.out 2).trans rfl; have hcz22_3 : w21.cell? ⟨gb131, 3, none⟩ = some (.int .i64 ((qj l0_2 a1).f3)) := (qb BK131.out 3).trans rfl; have hcz22_4 : w21.cell? ⟨gb131, 4, none⟩ = some (.slice A130_4 ((qj l0_2 a1).f4).length c130_4) := (qb BK131.out 4).trans rfl; have hfz22_0 := qa BK131.out 0; have hfz22_1 := qa BK131.out 1; have hfz22_2 := qa BK131.out 2; have hfz22_3 := qa BK131.out 3; have hfz22_4 := qa BK131.out 4; have hcz23_0 : w21.cell? ⟨gb129, 0, none⟩ = some (.slice A0_0 l0_0.length c0_0) := (qb BK129.out 0).trans rfl; have hcz23_1 : w21.cell? ⟨gb129, 1, none⟩ = some (.slice A0_1 l0_1.length c0_1) := (qb BK129.out 1).trans rfl; have hcz23_2 : w21.cell? ⟨gb129, 2, none⟩ = some (.slice (some ad130) l0_2.length c0_2) := (qb BK129.out 2).trans rfl; have hcz23_3 : w21.cell? ⟨gb129, 3, none⟩ = some (.int .i64 a0_3) := (qb BK129.out 3).trans rfl; have hfz23_0 := qa BK129.out 0; have hfz23_1 := qa BK129.out 1; have hfz23_2 := qa BK129.out 2; have hfz23_3 := qa BK129.out 3)); try go_wp2_with (first | (go_at_call 49; (with_reducible refine (mimesisref23_exit.calls k _ _ l0_0 _ _ l0_1 _ _ l0_2 a0_3 a1 (l0_1.length : Int) true _ ?side1 ?side2 ?side3 ?side4 ?side5 ?side6 A11.out).mono ?_); (case side1 => exact Kd.qn HR0_0.out (by repeat (first | (with_reducible first | exact HB.out | apply qe | apply qc | apply qd | refine qh ?_ GE129.out | refine qh ?_ GE131.out) | exact HB.out))); (case side2 => exact HC0_0.out); (case side3 => exact Kd.qn HR0_1.out (by repeat (first | (with_reducible first | exact HB.out | apply qe | apply qc | apply qd | refine qh ?_ GE129.out | refine qh ?_ GE131.out) | exact HB.out))); (case side4 => exact HC0_1.out); (case side5 => exact Kd.qn HR0_2.out (by repeat (first | (with_reducible first | exact HB.out | apply qe | apply qc | apply qd | refine qh ?_ GE129.out | refine qh ?_ GE131.out) | exact HB.out))); (case side6 => exact HC0_2.out); rintro e w21 ⟨rfl, hb⟩; have n0_ := Aside0.mk (qo (g := gb129) (o := .cells #[.slice A0_0 l0_0.length c0_0, .slice A0_1 l0_1.length c0_1, .slice (some ad130) l0_2.length c0_2, .int .i64 a0_3] 26 (0, 0)) (by (with_reducible repeat (first | refine qg ?_ _ | refine qi ?_ | refine qf ?_ _)); refine qp ?_ NB129_131.out _; (with_reducible repeat (first | refine qg ?_ _ | refine qi ?_ | refine qf ?_ _)); refine qp ?_ NB129_131.out _; (with_reducible repeat (first | refine qg ?_ _ | refine qi ?_ | refine qf ?_ _)); refine qp ?_ NB129_131.out _; (with_reducible repeat (first | refine qg ?_ _ | refine qi ?_ | refine qf ?_ _)); refine qp ?_ NB129_131.out _; (with_reducible repeat (first | refine qg ?_ _ | refine qi ?_ | refine qf ?_ _)); refine qp ?_ NB129_131.out _; (with_reducible repeat (first | refine qg ?_ _ | refine qi ?_ | refine qf ?_ _)); exact BK129.out) hb); have n1_ := Aside0.mk (qo (g := gb131) (o := .cells #[.int .i64 ((qj l0_2 a1).f0), .int .u32 ((qj l0_2 a1).f1), .int .i64 ((qj l0_2 a1).f2), .int .i64 ((qj l0_2 a1).f3), .slice A130_4 ((qj l0_2 a1).f4).length c130_4] 65 (0, 0)) (by (with_reducible repeat (first | refine qg ?_ _ | refine qi ?_ | refine qf ?_ _)); refine qt (cs := #[.int .i64 ((qj l0_2 a1).f0), .int .u32 ((qj l0_2 a1).f1), .int .i64 ((qj l0_2 a1).f2), .int .i64 ((qj l0_2 a1).f3), .slice none 0 0]) ?_ 4 _ rfl; (with_reducible repeat (first | refine qg ?_ _ | refine qi ?_ | refine qf ?_ _)); refine qt (cs := #[.int .i64 ((qj l0_2 a1).f0), .int .u32 ((qj l0_2 a1).f1), .int .i64 ((qj l0_2 a1).f2), .int .i64 0, .slice none 0 0]) ?_ 3 _ rfl; (with_reducible repeat (first | refine qg ?_ _ | refine qi ?_ | refine qf ?_ _)); refine qt (cs := #[.int .i64 ((qj l0_2 a1).f0), .int .u32 ((qj l0_2 a1).f1), .int .i64 0, .int .i64 0, .slice none 0 0]) ?_ 2 _ rfl; (with_reducible repeat (first | refine qg ?_ _ | refine qi ?_ | refine qf ?_ _)); refine qt (cs := #[.int .i64 ((qj l0_2 a1).f0), .int .u32 0, .int .i64 0, .int .i64 0, .slice none 0 0]) ?_ 1 _ rfl; (with_reducible repeat (first | refine qg ?_ _ | refine qi ?_ | refine qf ?_ _)); refine qt (cs := #[.int .i64 0, .int .u32 0, .int .i64 0, .int .i64 0, .slice none 0 0]) ?_ 0 _ rfl; (with_reducible repeat (first | refine qg ?_ _ | refine qi ?_ | refine qf ?_ _)); exact BK131.out) hb); have n2_ := Aside0.mk (qq (by repeat (first | (with_reducible first | exact HB.out | apply qe | apply qc | apply qd | refine qh ?_ GE129.out | refine qh ?_ GE131.out) | exact HB.out)) hb); clear BK129; clear BK131; clear HB; have BK129 := n0_; have BK131 := n1_; have HB := n2_; clear n0_ n1_ n2_; (try clear hb); (try clear hb2); (try clear hk); (try clear hi); have hcz22_0 : w21.cell? ⟨gb131, 0, none⟩ = some (.int .i64 ((qj l0_2 a1).f0)) := (qb BK131.out 0).trans rfl; have hcz22_1 : w21.cell? ⟨gb131, 1, none⟩ = some (.int .u32 ((qj l0_2 a1).f1)) := (qb BK131.out 1).trans rfl; have hcz22_2 : w21.cell? ⟨gb131, 2, none⟩ = some (.int .i64 ((qj l0_2 a1).f2)) := (qb BK131.out 2).trans rfl; have hcz22_3 : w21.cell? ⟨gb131, 3, none⟩ = some (.int .i64 ((qj l0_2 a1).f3)) := (qb BK131.out 3).trans rfl; have hcz22_4 : w21.cell? ⟨gb131, 4, none⟩ = some (.slice A130_4 ((qj l0_2 a1).f4).length c130_4) := (qb BK131.out 4).trans rfl; have hfz22_0 := qa BK131.out 0; have hfz22_1 := qa BK131.out 1; have hfz22_2 := qa BK131.out 2; have hfz22_3 := qa BK131.out 3; have hfz22_4 := qa BK131.out 4; have hcz23_0 : w21.cell? ⟨gb129, 0, none⟩ = some (.slice A0_0 l0_0.length c0_0) := (qb BK129.out 0).trans rfl; have hcz23_1 : w21.cell? ⟨gb129, 1, none⟩ = some (.slice A0_1 l0_1.length c0_1) := (qb BK129.out 1).trans rfl; have hcz23_2 : w21.cell? ⟨gb129, 2, none⟩ = some (.slice (some ad130) l0_2.length c0_2) := (qb BK129.out 2).trans rfl; have hcz23_3 : w21.cell? ⟨gb129, 3, none⟩ = some (.int .i64 a0_3) := (qb BK129.out 3).trans rfl; have hfz23_0 := qa BK129.out 0; have hfz23_1 := qa BK129.out 1; have hfz23_2 := qa BK129.out 2; have hfz23_3 := qa BK129.out 3)))
       go_meet
       case rel => exact ⟨_, (true), (by first | rfl | (simp; done) | (simp [*]; done)), H', ⟨by first | omega | exact Nat.le_refl _⟩, ⟨by (with_reducible repeat (first | refine qg ?_ _ | refine qi ?_ | refine qf ?_ _)); exact BK129.out⟩, ⟨by (with_reducible repeat (first | refine qg ?_ _ | refine qi ?_ | refine qf ?_ _)); exact BK131.out⟩, ⟨by repeat (first | (with_reducible first | exact HB.out | apply qe | apply qc | apply qd | refine qh ?_ GE129.out | refine qh ?_ GE131.out) | exact HB.out)⟩⟩
      ·rw [if_neg c18] at H
       have c18b0 : decide ((l0_0.length : Int) < ((qj l0_2 a1).f0)) = false := decide_eq_false c18
       clear c18
       by_cases c24 : (Int.tmod ((qj l0_2 a1).f1) 4) = 0
       ·rw [if_pos c24] at H
        have c24b0 : ((Int.tmod ((qj l0_2 a1).f1) 4) == 0) = true := beq_iff_eq.mpr c24
        have c24b1 : ((Int.tmod ((qj l0_2 a1).f1) 4) != 0) = false := bne_eq_false_iff_eq.mpr c24
        clear c24
        by_cases c25 : ((qj l0_2 a1).f3) < 1
        ·rw [if_pos c25] at H
         have c25b0 : decide (((qj l0_2 a1).f3) < 1) = true := decide_eq_true c25
         clear c25
         have H' := Aside0.mk H
         clear H
         have hnb26 := NB129_131.out
         have hnc26 := NB131_129.out
         have hcz27_0 : w8.cell? ⟨gb129, 0, none⟩ = some (.slice A0_0 l0_0.length c0_0) := (qb BK129.out 0).trans rfl
         have hcz27_1 : w8.cell? ⟨gb129, 1, none⟩ = some (.slice A0_1 l0_1.length c0_1) := (qb BK129.out 1).trans rfl
         have hcz27_2 : w8.cell? ⟨gb129, 2, none⟩ = some (.slice (some ad130) l0_2.length c0_2) := (qb BK129.out 2).trans rfl
         have hcz27_3 : w8.cell? ⟨gb129, 3, none⟩ = some (.int .i64 a0_3) := (qb BK129.out 3).trans rfl
         have hfz27_0 := qa BK129.out 0
         have hfz27_1 := qa BK129.out 1
         have hfz27_2 := qa BK129.out 2
         have hfz27_3 := qa BK129.out 3
         go_wp2_with (first | (go_at_call 49; (with_reducible refine (mimesisref23_exit.calls k _ _ l0_0 _ _ l0_1 _ _ l0_2 a0_3 a1 (l0_1.length : Int) true _ ?side1 ?side2 ?side3 ?side4 ?side5 ?side6 A11.out).mono ?_); (case side1 => exact Kd.qn HR0_0.out (by repeat (first | (with_reducible first | exact HB.out | apply qe | apply qc | apply qd | refine qh ?_ GE129.out | refine qh ?_ GE131.out) | exact HB.out))); (case side2 => exact HC0_0.out); (case side3 => exact Kd.qn HR0_1.out (by repeat (first | (with_reducible first | exact HB.out | apply qe | apply qc | apply qd | refine qh ?_ GE129.out | refine qh ?_ GE131.out) | exact HB.out))); (case side4 => exact HC0_1.out); (case side5 => exact Kd.qn HR0_2.out (by repeat (first | (with_reducible first | exact HB.out | apply qe | apply qc | apply qd | refine qh ?_ GE129.out | refine qh ?_ GE131.out) | exact HB.out))); (case side6 => exact HC0_2.out); rintro e w28 ⟨rfl, hb⟩; have n0_ := Aside0.mk (qo (g := gb129) (o := .cells #[.slice A0_0 l0_0.length c0_0, .slice A0_1 l0_1.length c0_1, .slice (some ad130) l0_2.length c0_2, .int .i64 a0_3] 26 (0, 0)) (by (with_reducible repeat (first | refine qg ?_ _ | refine qi ?_ | refine qf ?_ _)); refine qp ?_ NB129_131.out _; (with_reducible repeat (first | refine qg ?_ _ | refine qi ?_ | refine qf ?_ _)); refine qp ?_ NB129_131.out _; (with_reducible repeat (first | refine qg ?_ _ | refine qi ?_ | refine qf ?_ _)); refine qp ?_ NB129_131.out _; (with_reducible repeat (first | refine qg ?_ _ | refine qi ?_ | refine qf ?_ _)); refine qp ?_ NB129_131.out _; (with_reducible repeat (first | refine qg ?_ _ | refine qi ?_ | refine qf ?_ _)); refine qp ?_ NB129_131.out _; (with_reducible repeat (first | refine qg ?_ _ | refine qi ?_ | refine qf ?_ _)); exact BK129.out) hb); have n1_ := Aside0.mk (qo (g := gb131) (o := .cells #[.int .i64 ((qj l0_2 a1).f0), .int .u32 ((qj l0_2 a1).f1), .int .i64 ((qj l0_2 a1).f2), .int .i64 ((qj l0_2 a1).f3), .slice A130_4 ((qj l0_2 a1).f4).length c130_4] 65 (0, 0)) (by (with_reducible repeat (first | refine qg ?_ _ | refine qi ?_ | refine qf ?_ _)); refine qt (cs := #[.int .i64 ((qj l0_2 a1).f0), .int .u32 ((qj l0_2 a1).f1), .int .i64 ((qj l0_2 a1).f2), .int .i64 ((qj l0_2 a1).f3), .slice none 0 0]) ?_ 4 _ rfl; (with_reducible repeat (first | refine qg ?_ _ | refine qi ?_ | refine qf ?_ _)); refine qt (cs := #[.int .i64 ((qj l0_2 a1).f0), .int .u32 ((qj l0_2 a1).f1), .int .i64 ((qj l0_2 a1).f2), .int .i64 0, .slice none 0 0]) ?_ 3 _ rfl; (with_reducible repeat (first | refine qg ?_ _ | refine qi ?_ | refine qf ?_ _)); refine qt (cs := #[.int .i64 ((qj l0_2 a1).f0), .int .u32 ((qj l0_2 a1).f1), .int .i64 0, .int .i64 0, .slice none 0 0]) ?_ 2 _ rfl; (with_reducible repeat (first | refine qg ?_ _ | refine qi ?_ | refine qf ?_ _)); refine qt (cs := #[.int .i64 ((qj l0_2 a1).f0), .int .u32 0, .int .i64 0, .int .i64 0, .slice none 0 0]) ?_ 1 _ rfl; (with_reducible repeat (first | refine qg ?_ _ | refine qi ?_ | refine qf ?_ _)); refine qt (cs := #[.int .i64 0, .int .u32 0, .int .i64 0, .int .i64 0, .slice none 0 0]) ?_ 0 _ rfl; (with_reducible repeat (first | refine qg ?_ _ | refine qi ?_ | refine qf ?_ _)); exact BK131.out) hb); have n2_ := Aside0.mk (qq (by repeat (first | (with_reducible first | exact HB.out | apply qe | apply qc | apply qd | refine qh ?_ GE129.out | refine qh ?_ GE131.out) | exact HB.out)) hb); clear BK129; clear BK131; clear HB; have BK129 := n0_; have BK131 := n1_; have HB := n2_; clear n0_ n1_ n2_; (try clear hb); (try clear hb2); (try clear hk); (try clear hi); have hcz29_0 : w28.cell? ⟨gb131, 0, none⟩ = some (.int .i64 ((qj l0_2 a1).f0)) := (qb BK131.out 0).trans rfl; have hcz29_1 : w28.cell? ⟨gb131, 1, none⟩ = some (.int .u32 ((qj l0_2 a1).f1)) := (qb BK131.out 1).trans rfl; have hcz29_2 : w28.cell? ⟨gb131, 2, none⟩ = some (.int .i64 ((qj l0_2 a1).f2)) := (qb BK131.out 2).trans rfl; have hcz29_3 : w28.cell? ⟨gb131, 3, none⟩ = some (.int .i64 ((qj l0_2 a1).f3)) := (qb BK131.out 3).trans rfl; have hcz29_4 : w28.cell? ⟨gb131, 4, none⟩ = some (.slice A130_4 ((qj l0_2 a1).f4).length c130_4) := (qb BK131.out 4).trans rfl; have hfz29_0 := qa BK131.out 0; have hfz29_1 := qa BK131.out 1; have hfz29_2 := qa BK131.out 2; have hfz29_3 := qa BK131.out 3; have hfz29_4 := qa BK131.out 4; have hcz30_0 : w28.cell? ⟨gb129, 0, none⟩ = some (.slice A0_0 l0_0.length c0_0) := (qb BK129.out 0).trans rfl; have hcz30_1 : w28.cell? ⟨gb129, 1, none⟩ = some (.slice A0_1 l0_1.length c0_1) := (qb BK129.out 1).trans rfl; have hcz30_2 : w28.cell? ⟨gb129, 2, none⟩ = some (.slice (some ad130) l0_2.length c0_2) := (qb BK129.out 2).trans rfl; have hcz30_3 : w28.cell? ⟨gb129, 3, none⟩ = some (.int .i64 a0_3) := (qb BK129.out 3).trans rfl; have hfz30_0 := qa BK129.out 0; have hfz30_1 := qa BK129.out 1; have hfz30_2 := qa BK129.out 2; have hfz30_3 := qa BK129.out 3))
         repeat (go_quiet (first | (go_at_call 49; (with_reducible refine (mimesisref23_exit.calls k _ _ l0_0 _ _ l0_1 _ _ l0_2 a0_3 a1 (l0_1.length : Int) true _ ?side1 ?side2 ?side3 ?side4 ?side5 ?side6 A11.out).mono ?_); (case side1 => exact Kd.qn HR0_0.out (by repeat (first | (with_reducible first | exact HB.out | apply qe | apply qc | apply qd | refine qh ?_ GE129.out | refine qh ?_ GE131.out) | exact HB.out))); (case side2 => exact HC0_0.out); (case side3 => exact Kd.qn HR0_1.out (by repeat (first | (with_reducible first | exact HB.out | apply qe | apply qc | apply qd | refine qh ?_ GE129.out | refine qh ?_ GE131.out) | exact HB.out))); (case side4 => exact HC0_1.out); (case side5 => exact Kd.qn HR0_2.out (by repeat (first | (with_reducible first | exact HB.out | apply qe | apply qc | apply qd | refine qh ?_ GE129.out | refine qh ?_ GE131.out) | exact HB.out))); (case side6 => exact HC0_2.out); rintro e w28 ⟨rfl, hb⟩; have n0_ := Aside0.mk (qo (g := gb129) (o := .cells #[.slice A0_0 l0_0.length c0_0, .slice A0_1 l0_1.length c0_1, .slice (some ad130) l0_2.length c0_2, .int .i64 a0_3] 26 (0, 0)) (by (with_reducible repeat (first | refine qg ?_ _ | refine qi ?_ | refine qf ?_ _)); refine qp ?_ NB129_131.out _; (with_reducible repeat (first | refine qg ?_ _ | refine qi ?_ | refine qf ?_ _)); refine qp ?_ NB129_131.out _; (with_reducible repeat (first | refine qg ?_ _ | refine qi ?_ | refine qf ?_ _)); refine qp ?_ NB129_131.out _; (with_reducible repeat (first | refine qg ?_ _ | refine qi ?_ | refine qf ?_ _)); refine qp ?_ NB129_131.out _; (with_reducible repeat (first | refine qg ?_ _ | refine qi ?_ | refine qf ?_ _)); refine qp ?_ NB129_131.out _; (with_reducible repeat (first | refine qg ?_ _ | refine qi ?_ | refine qf ?_ _)); exact BK129.out) hb); have n1_ := Aside0.mk (qo (g := gb131) (o := .cells #[.int .i64 ((qj l0_2 a1).f0), .int .u32 ((qj l0_2 a1).f1), .int .i64 ((qj l0_2 a1).f2), .int .i64 ((qj l0_2 a1).f3), .slice A130_4 ((qj l0_2 a1).f4).length c130_4] 65 (0, 0)) (by (with_reducible repeat (first | refine qg ?_ _ | refine qi ?_ | refine qf ?_ _)); refine qt (cs := #[.int .i64 ((qj l0_2 a1).f0), .int .u32 ((qj l0_2 a1).f1), .int .i64 ((qj l0_2 a1).f2), .int .i64 ((qj l0_2 a1).f3), .slice none 0 0]) ?_ 4 _ rfl; (with_reducible repeat (first | refine qg ?_ _ | refine qi ?_ | refine qf ?_ _)); refine qt (cs := #[.int .i64 ((qj l0_2 a1).f0), .int .u32 ((qj l0_2 a1).f1), .int .i64 ((qj l0_2 a1).f2), .int .i64 0, .slice none 0 0]) ?_ 3 _ rfl; (with_reducible repeat (first | refine qg ?_ _ | refine qi ?_ | refine qf ?_ _)); refine qt (cs := #[.int .i64 ((qj l0_2 a1).f0), .int .u32 ((qj l0_2 a1).f1), .int .i64 0, .int .i64 0, .slice none 0 0]) ?_ 2 _ rfl; (with_reducible repeat (first | refine qg ?_ _ | refine qi ?_ | refine qf ?_ _)); refine qt (cs := #[.int .i64 ((qj l0_2 a1).f0), .int .u32 0, .int .i64 0, .int .i64 0, .slice none 0 0]) ?_ 1 _ rfl; (with_reducible repeat (first | refine qg ?_ _ | refine qi ?_ | refine qf ?_ _)); refine qt (cs := #[.int .i64 0, .int .u32 0, .int .i64 0, .int .i64 0, .slice none 0 0]) ?_ 0 _ rfl; (with_reducible repeat (first | refine qg ?_ _ | refine qi ?_ | refine qf ?_ _)); exact BK131.out) hb); have n2_ := Aside0.mk (qq (by repeat (first | (with_reducible first | exact HB.out | apply qe | apply qc | apply qd | refine qh ?_ GE129.out | refine qh ?_ GE131.out) | exact HB.out)) hb); clear BK129; clear BK131; clear HB; have BK129 := n0_; have BK131 := n1_; have HB := n2_; clear n0_ n1_ n2_; (try clear hb); (try clear hb2); (try clear hk); (try clear hi); have hcz29_0 : w28.cell? ⟨gb131, 0, none⟩ = some (.int .i64 ((qj l0_2 a1).f0)) := (qb BK131.out 0).trans rfl; have hcz29_1 : w28.cell? ⟨gb131, 1, none⟩ = some (.int .u32 ((qj l0_2 a1).f1)) := (qb BK131.out 1).trans rfl; have hcz29_2 : w28.cell? ⟨gb131, 2, none⟩ = some (.int .i64 ((qj l0_2 a1).f2)) := (qb BK131.out 2).trans rfl; have hcz29_3 : w28.cell? ⟨gb131, 3, none⟩ = some (.int .i64 ((qj l0_2 a1).f3)) := (qb BK131.out 3).trans rfl; have hcz29_4 : w28.cell? ⟨gb131, 4, none⟩ = some (.slice A130_4 ((qj l0_2 a1).f4).length c130_4) := (qb BK131.out 4).trans rfl; have hfz29_0 := qa BK131.out 0; have hfz29_1 := qa BK131.out 1; have hfz29_2 := qa BK131.out 2; have hfz29_3 := qa BK131.out 3; have hfz29_4 := qa BK131.out 4; have hcz30_0 : w28.cell? ⟨gb129, 0, none⟩ = some (.slice A0_0 l0_0.length c0_0) := (qb BK129.out 0).trans rfl; have hcz30_1 : w28.cell? ⟨gb129, 1, none⟩ = some (.slice A0_1 l0_1.length c0_1) := (qb BK129.out 1).trans rfl; have hcz30_2 : w28.cell? ⟨gb129, 2, none⟩ = some (.slice (some ad130) l0_2.length c0_2) := (qb BK129.out 2).trans rfl; have hcz30_3 : w28.cell? ⟨gb129, 3, none⟩ = some (.int .i64 a0_3) := (qb BK129.out 3).trans rfl; have hfz30_0 := qa BK129.out 0; have hfz30_1 := qa BK129.out 1; have hfz30_2 := qa BK129.out 2; have hfz30_3 := qa BK129.out 3)); try go_wp2_with (first | (go_at_call 49; (with_reducible refine (mimesisref23_exit.calls k _ _ l0_0 _ _ l0_1 _ _ l0_2 a0_3 a1 (l0_1.length : Int) true _ ?side1 ?side2 ?side3 ?side4 ?side5 ?side6 A11.out).mono ?_); (case side1 => exact Kd.qn HR0_0.out (by repeat (first | (with_reducible first | exact HB.out | apply qe | apply qc | apply qd | refine qh ?_ GE129.out | refine qh ?_ GE131.out) | exact HB.out))); (case side2 => exact HC0_0.out); (case side3 => exact Kd.qn HR0_1.out (by repeat (first | (with_reducible first | exact HB.out | apply qe | apply qc | apply qd | refine qh ?_ GE129.out | refine qh ?_ GE131.out) | exact HB.out))); (case side4 => exact HC0_1.out); (case side5 => exact Kd.qn HR0_2.out (by repeat (first | (with_reducible first | exact HB.out | apply qe | apply qc | apply qd | refine qh ?_ GE129.out | refine qh ?_ GE131.out) | exact HB.out))); (case side6 => exact HC0_2.out); rintro e w28 ⟨rfl, hb⟩; have n0_ := Aside0.mk (qo (g := gb129) (o := .cells #[.slice A0_0 l0_0.length c0_0, .slice A0_1 l0_1.length c0_1, .slice (some ad130) l0_2.length c0_2, .int .i64 a0_3] 26 (0, 0)) (by (with_reducible repeat (first | refine qg ?_ _ | refine qi ?_ | refine qf ?_ _)); refine qp ?_ NB129_131.out _; (with_reducible repeat (first | refine qg ?_ _ | refine qi ?_ | refine qf ?_ _)); refine qp ?_ NB129_131.out _; (with_reducible repeat (first | refine qg ?_ _ | refine qi ?_ | refine qf ?_ _)); refine qp ?_ NB129_131.out _; (with_reducible repeat (first | refine qg ?_ _ | refine qi ?_ | refine qf ?_ _)); refine qp ?_ NB129_131.out _; (with_reducible repeat (first | refine qg ?_ _ | refine qi ?_ | refine qf ?_ _)); refine qp ?_ NB129_131.out _; (with_reducible repeat (first | refine qg ?_ _ | refine qi ?_ | refine qf ?_ _)); exact BK129.out) hb); have n1_ := Aside0.mk (qo (g := gb131) (o := .cells #[.int .i64 ((qj l0_2 a1).f0), .int .u32 ((qj l0_2 a1).f1), .int .i64 ((qj l0_2 a1).f2), .int .i64 ((qj l0_2 a1).f3), .slice A130_4 ((qj l0_2 a1).f4).length c130_4] 65 (0, 0)) (by (with_reducible repeat (first | refine qg ?_ _ | refine qi ?_ | refine qf ?_ _)); refine qt (cs := #[.int .i64 ((qj l0_2 a1).f0), .int .u32 ((qj l0_2 a1).f1), .int .i64 ((qj l0_2 a1).f2), .int .i64 ((qj l0_2 a1).f3), .slice none 0 0]) ?_ 4 _ rfl; (with_reducible repeat (first | refine qg ?_ _ | refine qi ?_ | refine qf ?_ _)); refine qt (cs := #[.int .i64 ((qj l0_2 a1).f0), .int .u32 ((qj l0_2 a1).f1), .int .i64 ((qj l0_2 a1).f2), .int .i64 0, .slice none 0 0]) ?_ 3 _ rfl; (with_reducible repeat (first | refine qg ?_ _ | refine qi ?_ | refine qf ?_ _)); refine qt (cs := #[.int .i64 ((qj l0_2 a1).f0), .int .u32 ((qj l0_2 a1).f1), .int .i64 0, .int .i64 0, .slice none 0 0]) ?_ 2 _ rfl; (with_reducible repeat (first | refine qg ?_ _ | refine qi ?_ | refine qf ?_ _)); refine qt (cs := #[.int .i64 ((qj l0_2 a1).f0), .int .u32 0, .int .i64 0, .int .i64 0, .slice none 0 0]) ?_ 1 _ rfl; (with_reducible repeat (first | refine qg ?_ _ | refine qi ?_ | refine qf ?_ _)); refine qt (cs := #[.int .i64 0, .int .u32 0, .int .i64 0, .int .i64 0, .slice none 0 0]) ?_ 0 _ rfl; (with_reducible repeat (first | refine qg ?_ _ | refine qi ?_ | refine qf ?_ _)); exact BK131.out) hb); have n2_ := Aside0.mk (qq (by repeat (first | (with_reducible first | exact HB.out | apply qe | apply qc | apply qd | refine qh ?_ GE129.out | refine qh ?_ GE131.out) | exact HB.out)) hb); clear BK129; clear BK131; clear HB; have BK129 := n0_; have BK131 := n1_; have HB := n2_; clear n0_ n1_ n2_; (try clear hb); (try clear hb2); (try clear hk); (try clear hi); have hcz29_0 : w28.cell? ⟨gb131, 0, none⟩ = some (.int .i64 ((qj l0_2 a1).f0)) := (qb BK131.out 0).trans rfl; have hcz29_1 : w28.cell? ⟨gb131, 1, none⟩ = some (.int .u32 ((qj l0_2 a1).f1)) := (qb BK131.out 1).trans rfl; have hcz29_2 : w28.cell? ⟨gb131, 2, none⟩ = some (.int .i64 ((qj l0_2 a1).f2)) := (qb BK131.out 2).trans rfl; have hcz29_3 : w28.cell? ⟨gb131, 3, none⟩ = some (.int .i64 ((qj l0_2 a1).f3)) := (qb BK131.out 3).trans rfl; have hcz29_4 : w28.cell? ⟨gb131, 4, none⟩ = some (.slice A130_4 ((qj l0_2 a1).f4).length c130_4) := (qb BK131.out 4).trans rfl; have hfz29_0 := qa BK131.out 0; have hfz29_1 := qa BK131.out 1; have hfz29_2 := qa BK131.out 2; have hfz29_3 := qa BK131.out 3; have hfz29_4 := qa BK131.out 4; have hcz30_0 : w28.cell? ⟨gb129, 0, none⟩ = some (.slice A0_0 l0_0.length c0_0) := (qb BK129.out 0).trans rfl; have hcz30_1 : w28.cell? ⟨gb129, 1, none⟩ = some (.slice A0_1 l0_1.length c0_1) := (qb BK129.out 1).trans rfl; have hcz30_2 : w28.cell? ⟨gb129, 2, none⟩ = some (.slice (some ad130) l0_2.length c0_2) := (qb BK129.out 2).trans rfl; have hcz30_3 : w28.cell? ⟨gb129, 3, none⟩ = some (.int .i64 a0_3) := (qb BK129.out 3).trans rfl; have hfz30_0 := qa BK129.out 0; have hfz30_1 := qa BK129.out 1; have hfz30_2 := qa BK129.out 2; have hfz30_3 := qa BK129.out 3)))
         go_meet
         case rel => exact ⟨_, (true), (by first | rfl | (simp; done) | (simp [*]; done)), H', ⟨by first | omega | exact Nat.le_refl _⟩, ⟨by (with_reducible repeat (first | refine qg ?_ _ | refine qi ?_ | refine qf ?_ _)); exact BK129.out⟩, ⟨by (with_reducible repeat (first | refine qg ?_ _ | refine qi ?_ | refine qf ?_ _)); exact BK131.out⟩, ⟨by repeat (first | (with_reducible first | exact HB.out | apply qe | apply qc | apply qd | refine qh ?_ GE129.out | refine qh ?_ GE131.out) | exact HB.out)⟩⟩
        ·rw [if_neg c25] at H
         have c25b0 : decide (((qj l0_2 a1).f3) < 1) = false := decide_eq_false c25
         clear c25
         have H' := Aside0.mk H
         clear H
         have hnb31 := NB129_131.out
         have hnc31 := NB131_129.out
         have hcz32_0 : w8.cell? ⟨gb129, 0, none⟩ = some (.slice A0_0 l0_0.length c0_0) := (qb BK129.out 0).trans rfl
         have hcz32_1 : w8.cell? ⟨gb129, 1, none⟩ = some (.slice A0_1 l0_1.length c0_1) := (qb BK129.out 1).trans rfl
         have hcz32_2 : w8.cell? ⟨gb129, 2, none⟩ = some (.slice (some ad130) l0_2.length c0_2) := (qb BK129.out 2).trans rfl
         have hcz32_3 : w8.cell? ⟨gb129, 3, none⟩ = some (.int .i64 a0_3) := (qb BK129.out 3).trans rfl
         have hfz32_0 := qa BK129.out 0
         have hfz32_1 := qa BK129.out 1
         have hfz32_2 := qa BK129.out 2
         have hfz32_3 := qa BK129.out 3
         go_wp2_with (first | (go_at_call 49; (with_reducible refine (mimesisref23_exit.calls k _ _ l0_0 _ _ l0_1 _ _ l0_2 a0_3 a1 (l0_1.length : Int) true _ ?side1 ?side2 ?side3 ?side4 ?side5 ?side6 A11.out).mono ?_); (case side1 => exact Kd.qn HR0_0.out (by repeat (first | (with_reducible first | exact HB.out | apply qe | apply qc | apply qd | refine qh ?_ GE129.out | refine qh ?_ GE131.out) | exact HB.out))); (case side2 => exact HC0_0.out); (case side3 => exact Kd.qn HR0_1.out (by repeat (first | (with_reducible first | exact HB.out | apply qe | apply qc | apply qd | refine qh ?_ GE129.out | refine qh ?_ GE131.out) | exact HB.out))); (case side4 => exact HC0_1.out); (case side5 => exact Kd.qn HR0_2.out (by repeat (first | (with_reducible first | exact HB.out | apply qe | apply qc | apply qd | refine qh ?_ GE129.out | refine qh ?_ GE131.out) | exact HB.out))); (case side6 => exact HC0_2.out); rintro e w33 ⟨rfl, hb⟩; have n0_ := Aside0.mk (qo (g := gb129) (o := .cells #[.slice A0_0 l0_0.length c0_0, .slice A0_1 l0_1.length c0_1, .slice (some ad130) l0_2.length c0_2, .int .i64 a0_3] 26 (0, 0)) (by (with_reducible repeat (first | refine qg ?_ _ | refine qi ?_ | refine qf ?_ _)); refine qp ?_ NB129_131.out _; (with_reducible repeat (first | refine qg ?_ _ | refine qi ?_ | refine qf ?_ _)); refine qp ?_ NB129_131.out _; (with_reducible repeat (first | refine qg ?_ _ | refine qi ?_ | refine qf ?_ _)); refine qp ?_ NB129_131.out _; (with_reducible repeat (first | refine qg ?_ _ | refine qi ?_ | refine qf ?_ _)); refine qp ?_ NB129_131.out _; (with_reducible repeat (first | refine qg ?_ _ | refine qi ?_ | refine qf ?_ _)); refine qp ?_ NB129_131.out _; (with_reducible repeat (first | refine qg ?_ _ | refine qi ?_ | refine qf ?_ _)); exact BK129.out) hb); have n1_ := Aside0.mk (qo (g := gb131) (o := .cells #[.int .i64 ((qj l0_2 a1).f0), .int .u32 ((qj l0_2 a1).f1), .int .i64 ((qj l0_2 a1).f2), .int .i64 ((qj l0_2 a1).f3), .slice A130_4 ((qj l0_2 a1).f4).length c130_4] 65 (0, 0)) (by (with_reducible repeat (first | refine qg ?_ _ | refine qi ?_ | refine qf ?_ _)); refine qt (cs := #[.int .i64 ((qj l0_2 a1).f0), .int .u32 ((qj l0_2 a1).f1), .int .i64 ((qj l0_2 a1).f2), .int .i64 ((qj l0_2 a1).f3), .slice none 0 0]) ?_ 4 _ rfl; (with_reducible repeat (first | refine qg ?_ _ | refine qi ?_ | refine qf ?_ _)); refine qt (cs := #[.int .i64 ((qj l0_2 a1).f0), .int .u32 ((qj l0_2 a1).f1), .int .i64 ((qj l0_2 a1).f2), .int .i64 0, .slice none 0 0]) ?_ 3 _ rfl; (with_reducible repeat (first | refine qg ?_ _ | refine qi ?_ | refine qf ?_ _)); refine qt (cs := #[.int .i64 ((qj l0_2 a1).f0), .int .u32 ((qj l0_2 a1).f1), .int .i64 0, .int .i64 0, .slice none 0 0]) ?_ 2 _ rfl; (with_reducible repeat (first | refine qg ?_ _ | refine qi ?_ | refine qf ?_ _)); refine qt (cs := #[.int .i64 ((qj l0_2 a1).f0), .int .u32 0, .int .i64 0, .int .i64 0, .slice none 0 0]) ?_ 1 _ rfl; (with_reducible repeat (first | refine qg ?_ _ | refine qi ?_ | refine qf ?_ _)); refine qt (cs := #[.int .i64 0, .int .u32 0, .int .i64 0, .int .i64 0, .slice none 0 0]) ?_ 0 _ rfl; (with_reducible repeat (first | refine qg ?_ _ | refine qi ?_ | refine qf ?_ _)); exact BK131.out) hb); have n2_ := Aside0.mk (qq (by repeat (first | (with_reducible first | exact HB.out | apply qe | apply qc | apply qd | refine qh ?_ GE129.out | refine qh ?_ GE131.out) | exact HB.out)) hb); clear BK129; clear BK131; clear HB; have BK129 := n0_; have BK131 := n1_; have HB := n2_; clear n0_ n1_ n2_; (try clear hb); (try clear hb2); (try clear hk); (try clear hi); have hcz34_0 : w33.cell? ⟨gb131, 0, none⟩ = some (.int .i64 ((qj l0_2 a1).f0)) := (qb BK131.out 0).trans rfl; have hcz34_1 : w33.cell? ⟨gb131, 1, none⟩ = some (.int .u32 ((qj l0_2 a1).f1)) := (qb BK131.out 1).trans rfl; have hcz34_2 : w33.cell? ⟨gb131, 2, none⟩ = some (.int .i64 ((qj l0_2 a1).f2)) := (qb BK131.out 2).trans rfl; have hcz34_3 : w33.cell? ⟨gb131, 3, none⟩ = some (.int .i64 ((qj l0_2 a1).f3)) := (qb BK131.out 3).trans rfl; have hcz34_4 : w33.cell? ⟨gb131, 4, none⟩ = some (.slice A130_4 ((qj l0_2 a1).f4).length c130_4) := (qb BK131.out 4).trans rfl; have hfz34_0 := qa BK131.out 0; have hfz34_1 := qa BK131.out 1; have hfz34_2 := qa BK131.out 2; have hfz34_3 := qa BK131.out 3; have hfz34_4 := qa BK131.out 4; have hcz35_0 : w33.cell? ⟨gb129, 0, none⟩ = some (.slice A0_0 l0_0.length c0_0) := (qb BK129.out 0).trans rfl; have hcz35_1 : w33.cell? ⟨gb129, 1, none⟩ = some (.slice A0_1 l0_1.length c0_1) := (qb BK129.out 1).trans rfl; have hcz35_2 : w33.cell? ⟨gb129, 2, none⟩ = some (.slice (some ad130) l0_2.length c0_2) := (qb BK129.out 2).trans rfl; have hcz35_3 : w33.cell? ⟨gb129, 3, none⟩ = some (.int .i64 a0_3) := (qb BK129.out 3).trans rfl; have hfz35_0 := qa BK129.out 0; have hfz35_1 := qa BK129.out 1; have hfz35_2 := qa BK129.out 2; have hfz35_3 := qa BK129.out 3))
         repeat (go_quiet (first | (go_at_call 49; (with_reducible refine (mimesisref23_exit.calls k _ _ l0_0 _ _ l0_1 _ _ l0_2 a0_3 a1 (l0_1.length : Int) true _ ?side1 ?side2 ?side3 ?side4 ?side5 ?side6 A11.out).mono ?_); (case side1 => exact Kd.qn HR0_0.out (by repeat (first | (with_reducible first | exact HB.out | apply qe | apply qc | apply qd | refine qh ?_ GE129.out | refine qh ?_ GE131.out) | exact HB.out))); (case side2 => exact HC0_0.out); (case side3 => exact Kd.qn HR0_1.out (by repeat (first | (with_reducible first | exact HB.out | apply qe | apply qc | apply qd | refine qh ?_ GE129.out | refine qh ?_ GE131.out) | exact HB.out))); (case side4 => exact HC0_1.out); (case side5 => exact Kd.qn HR0_2.out (by repeat (first | (with_reducible first | exact HB.out | apply qe | apply qc | apply qd | refine qh ?_ GE129.out | refine qh ?_ GE131.out) | exact HB.out))); (case side6 => exact HC0_2.out); rintro e w33 ⟨rfl, hb⟩; have n0_ := Aside0.mk (qo (g := gb129) (o := .cells #[.slice A0_0 l0_0.length c0_0, .slice A0_1 l0_1.length c0_1, .slice (some ad130) l0_2.length c0_2, .int .i64 a0_3] 26 (0, 0)) (by (with_reducible repeat (first | refine qg ?_ _ | refine qi ?_ | refine qf ?_ _)); refine qp ?_ NB129_131.out _; (with_reducible repeat (first | refine qg ?_ _ | refine qi ?_ | refine qf ?_ _)); refine qp ?_ NB129_131.out _; (with_reducible repeat (first | refine qg ?_ _ | refine qi ?_ | refine qf ?_ _)); refine qp ?_ NB129_131.out _; (with_reducible repeat (first | refine qg ?_ _ | refine qi ?_ | refine qf ?_ _)); refine qp ?_ NB129_131.out _; (with_reducible repeat (first | refine qg ?_ _ | refine qi ?_ | refine qf ?_ _)); refine qp ?_ NB129_131.out _; (with_reducible repeat (first | refine qg ?_ _ | refine qi ?_ | refine qf ?_ _)); exact BK129.out) hb); have n1_ := Aside0.mk (qo (g := gb131) (o := .cells #[.int .i64 ((qj l0_2 a1).f0), .int .u32 ((qj l0_2 a1).f1), .int .i64 ((qj l0_2 a1).f2), .int .i64 ((qj l0_2 a1).f3), .slice A130_4 ((qj l0_2 a1).f4).length c130_4] 65 (0, 0)) (by (with_reducible repeat (first | refine qg ?_ _ | refine qi ?_ | refine qf ?_ _)); refine qt (cs := #[.int .i64 ((qj l0_2 a1).f0), .int .u32 ((qj l0_2 a1).f1), .int .i64 ((qj l0_2 a1).f2), .int .i64 ((qj l0_2 a1).f3), .slice none 0 0]) ?_ 4 _ rfl; (with_reducible repeat (first | refine qg ?_ _ | refine qi ?_ | refine qf ?_ _)); refine qt (cs := #[.int .i64 ((qj l0_2 a1).f0), .int .u32 ((qj l0_2 a1).f1), .int .i64 ((qj l0_2 a1).f2), .int .i64 0, .slice none 0 0]) ?_ 3 _ rfl; (with_reducible repeat (first | refine qg ?_ _ | refine qi ?_ | refine qf ?_ _)); refine qt (cs := #[.int .i64 ((qj l0_2 a1).f0), .int .u32 ((qj l0_2 a1).f1), .int .i64 0, .int .i64 0, .slice none 0 0]) ?_ 2 _ rfl; (with_reducible repeat (first | refine qg ?_ _ | refine qi ?_ | refine qf ?_ _)); refine qt (cs := #[.int .i64 ((qj l0_2 a1).f0), .int .u32 0, .int .i64 0, .int .i64 0, .slice none 0 0]) ?_ 1 _ rfl; (with_reducible repeat (first | refine qg ?_ _ | refine qi ?_ | refine qf ?_ _)); refine qt (cs := #[.int .i64 0, .int .u32 0, .int .i64 0, .int .i64 0, .slice none 0 0]) ?_ 0 _ rfl; (with_reducible repeat (first | refine qg ?_ _ | refine qi ?_ | refine qf ?_ _)); exact BK131.out) hb); have n2_ := Aside0.mk (qq (by repeat (first | (with_reducible first | exact HB.out | apply qe | apply qc | apply qd | refine qh ?_ GE129.out | refine qh ?_ GE131.out) | exact HB.out)) hb); clear BK129; clear BK131; clear HB; have BK129 := n0_; have BK131 := n1_; have HB := n2_; clear n0_ n1_ n2_; (try clear hb); (try clear hb2); (try clear hk); (try clear hi); have hcz34_0 : w33.cell? ⟨gb131, 0, none⟩ = some (.int .i64 ((qj l0_2 a1).f0)) := (qb BK131.out 0).trans rfl; have hcz34_1 : w33.cell? ⟨gb131, 1, none⟩ = some (.int .u32 ((qj l0_2 a1).f1)) := (qb BK131.out 1).trans rfl; have hcz34_2 : w33.cell? ⟨gb131, 2, none⟩ = some (.int .i64 ((qj l0_2 a1).f2)) := (qb BK131.out 2).trans rfl; have hcz34_3 : w33.cell? ⟨gb131, 3, none⟩ = some (.int .i64 ((qj l0_2 a1).f3)) := (qb BK131.out 3).trans rfl; have hcz34_4 : w33.cell? ⟨gb131, 4, none⟩ = some (.slice A130_4 ((qj l0_2 a1).f4).length c130_4) := (qb BK131.out 4).trans rfl; have hfz34_0 := qa BK131.out 0; have hfz34_1 := qa BK131.out 1; have hfz34_2 := qa BK131.out 2; have hfz34_3 := qa BK131.out 3; have hfz34_4 := qa BK131.out 4; have hcz35_0 : w33.cell? ⟨gb129, 0, none⟩ = some (.slice A0_0 l0_0.length c0_0) := (qb BK129.out 0).trans rfl; have hcz35_1 : w33.cell? ⟨gb129, 1, none⟩ = some (.slice A0_1 l0_1.length c0_1) := (qb BK129.out 1).trans rfl; have hcz35_2 : w33.cell? ⟨gb129, 2, none⟩ = some (.slice (some ad130) l0_2.length c0_2) := (qb BK129.out 2).trans rfl; have hcz35_3 : w33.cell? ⟨gb129, 3, none⟩ = some (.int .i64 a0_3) := (qb BK129.out 3).trans rfl; have hfz35_0 := qa BK129.out 0; have hfz35_1 := qa BK129.out 1; have hfz35_2 := qa BK129.out 2; have hfz35_3 := qa BK129.out 3)); try go_wp2_with (first | (go_at_call 49; (with_reducible refine (mimesisref23_exit.calls k _ _ l0_0 _ _ l0_1 _ _ l0_2 a0_3 a1 (l0_1.length : Int) true _ ?side1 ?side2 ?side3 ?side4 ?side5 ?side6 A11.out).mono ?_); (case side1 => exact Kd.qn HR0_0.out (by repeat (first | (with_reducible first | exact HB.out | apply qe | apply qc | apply qd | refine qh ?_ GE129.out | refine qh ?_ GE131.out) | exact HB.out))); (case side2 => exact HC0_0.out); (case side3 => exact Kd.qn HR0_1.out (by repeat (first | (with_reducible first | exact HB.out | apply qe | apply qc | apply qd | refine qh ?_ GE129.out | refine qh ?_ GE131.out) | exact HB.out))); (case side4 => exact HC0_1.out); (case side5 => exact Kd.qn HR0_2.out (by repeat (first | (with_reducible first | exact HB.out | apply qe | apply qc | apply qd | refine qh ?_ GE129.out | refine qh ?_ GE131.out) | exact HB.out))); (case side6 => exact HC0_2.out); rintro e w33 ⟨rfl, hb⟩; have n0_ := Aside0.mk (qo (g := gb129) (o := .cells #[.slice A0_0 l0_0.length c0_0, .slice A0_1 l0_1.length c0_1, .slice (some ad130) l0_2.length c0_2, .int .i64 a0_3] 26 (0, 0)) (by (with_reducible repeat (first | refine qg ?_ _ | refine qi ?_ | refine qf ?_ _)); refine qp ?_ NB129_131.out _; (with_reducible repeat (first | refine qg ?_ _ | refine qi ?_ | refine qf ?_ _)); refine qp ?_ NB129_131.out _; (with_reducible repeat (first | refine qg ?_ _ | refine qi ?_ | refine qf ?_ _)); refine qp ?_ NB129_131.out _; (with_reducible repeat (first | refine qg ?_ _ | refine qi ?_ | refine qf ?_ _)); refine qp ?_ NB129_131.out _; (with_reducible repeat (first | refine qg ?_ _ | refine qi ?_ | refine qf ?_ _)); refine qp ?_ NB129_131.out _; (with_reducible repeat (first | refine qg ?_ _ | refine qi ?_ | refine qf ?_ _)); exact BK129.out) hb); have n1_ := Aside0.mk (qo (g := gb131) (o := .cells #[.int .i64 ((qj l0_2 a1).f0), .int .u32 ((qj l0_2 a1).f1), .int .i64 ((qj l0_2 a1).f2), .int .i64 ((qj l0_2 a1).f3), .slice A130_4 ((qj l0_2 a1).f4).length c130_4] 65 (0, 0)) (by (with_reducible repeat (first | refine qg ?_ _ | refine qi ?_ | refine qf ?_ _)); refine qt (cs := #[.int .i64 ((qj l0_2 a1).f0), .int .u32 ((qj l0_2 a1).f1), .int .i64 ((qj l0_2 a1).f2), .int .i64 ((qj l0_2 a1).f3), .slice none 0 0]) ?_ 4 _ rfl; (with_reducible repeat (first | refine qg ?_ _ | refine qi ?_ | refine qf ?_ _)); refine qt (cs := #[.int .i64 ((qj l0_2 a1).f0), .int .u32 ((qj l0_2 a1).f1), .int .i64 ((qj l0_2 a1).f2), .int .i64 0, .slice none 0 0]) ?_ 3 _ rfl; (with_reducible repeat (first | refine qg ?_ _ | refine qi ?_ | refine qf ?_ _)); refine qt (cs := #[.int .i64 ((qj l0_2 a1).f0), .int .u32 ((qj l0_2 a1).f1), .int .i64 0, .int .i64 0, .slice none 0 0]) ?_ 2 _ rfl; (with_reducible repeat (first | refine qg ?_ _ | refine qi ?_ | refine qf ?_ _)); refine qt (cs := #[.int .i64 ((qj l0_2 a1).f0), .int .u32 0, .int .i64 0, .int .i64 0, .slice none 0 0]) ?_ 1 _ rfl; (with_reducible repeat (first | refine qg ?_ _ | refine qi ?_ | refine qf ?_ _)); refine qt (cs := #[.int .i64 0, .int .u32 0, .int .i64 0, .int .i64 0, .slice none 0 0]) ?_ 0 _ rfl; (with_reducible repeat (first | refine qg ?_ _ | refine qi ?_ | refine qf ?_ _)); exact BK131.out) hb); have n2_ := Aside0.mk (qq (by repeat (first | (with_reducible first | exact HB.out | apply qe | apply qc | apply qd | refine qh ?_ GE129.out | refine qh ?_ GE131.out) | exact HB.out)) hb); clear BK129; clear BK131; clear HB; have BK129 := n0_; have BK131 := n1_; have HB := n2_; clear n0_ n1_ n2_; (try clear hb); (try clear hb2); (try clear hk); (try clear hi); have hcz34_0 : w33.cell? ⟨gb131, 0, none⟩ = some (.int .i64 ((qj l0_2 a1).f0)) := (qb BK131.out 0).trans rfl; have hcz34_1 : w33.cell? ⟨gb131, 1, none⟩ = some (.int .u32 ((qj l0_2 a1).f1)) := (qb BK131.out 1).trans rfl; have hcz34_2 : w33.cell? ⟨gb131, 2, none⟩ = some (.int .i64 ((qj l0_2 a1).f2)) := (qb BK131.out 2).trans rfl; have hcz34_3 : w33.cell? ⟨gb131, 3, none⟩ = some (.int .i64 ((qj l0_2 a1).f3)) := (qb BK131.out 3).trans rfl; have hcz34_4 : w33.cell? ⟨gb131, 4, none⟩ = some (.slice A130_4 ((qj l0_2 a1).f4).length c130_4) := (qb BK131.out 4).trans rfl; have hfz34_0 := qa BK131.out 0; have hfz34_1 := qa BK131.out 1; have hfz34_2 := qa BK131.out 2; have hfz34_3 := qa BK131.out 3; have hfz34_4 := qa BK131.out 4; have hcz35_0 : w33.cell? ⟨gb129, 0, none⟩ = some (.slice A0_0 l0_0.length c0_0) := (qb BK129.out 0).trans rfl; have hcz35_1 : w33.cell? ⟨gb129, 1, none⟩ = some (.slice A0_1 l0_1.length c0_1) := (qb BK129.out 1).trans rfl; have hcz35_2 : w33.cell? ⟨gb129, 2, none⟩ = some (.slice (some ad130) l0_2.length c0_2) := (qb BK129.out 2).trans rfl; have hcz35_3 : w33.cell? ⟨gb129, 3, none⟩ = some (.int .i64 a0_3) := (qb BK129.out 3).trans rfl; have hfz35_0 := qa BK129.out 0; have hfz35_1 := qa BK129.out 1; have hfz35_2 := qa BK129.out 2; have hfz35_3 := qa BK129.out 3)))
         go_meet
         case rel => exact ⟨_, (decide (((qj l0_2 a1).f3) > 4)), (by first | rfl | (simp; done) | (simp [*]; done)), H', ⟨by first | omega | exact Nat.le_refl _⟩, ⟨by (with_reducible repeat (first | refine qg ?_ _ | refine qi ?_ | refine qf ?_ _)); exact BK129.out⟩, ⟨by (with_reducible repeat (first | refine qg ?_ _ | refine qi ?_ | refine qf ?_ _)); exact BK131.out⟩, ⟨by repeat (first | (with_reducible first | exact HB.out | apply qe | apply qc | apply qd | refine qh ?_ GE129.out | refine qh ?_ GE131.out) | exact HB.out)⟩⟩
       ·rw [if_neg c24] at H
        have c24b0 : ((Int.tmod ((qj l0_2 a1).f1) 4) == 0) = false := beq_eq_false_iff_ne.mpr c24
        have c24b1 : ((Int.tmod ((qj l0_2 a1).f1) 4) != 0) = true := bne_iff_ne.mpr c24
        have H' := Aside0.mk H
        clear H
        have hnb36 := NB129_131.out
        have hnc36 := NB131_129.out
        have hcz37_0 : w8.cell? ⟨gb129, 0, none⟩ = some (.slice A0_0 l0_0.length c0_0) := (qb BK129.out 0).trans rfl
        have hcz37_1 : w8.cell? ⟨gb129, 1, none⟩ = some (.slice A0_1 l0_1.length c0_1) := (qb BK129.out 1).trans rfl
        have hcz37_2 : w8.cell? ⟨gb129, 2, none⟩ = some (.slice (some ad130) l0_2.length c0_2) := (qb BK129.out 2).trans rfl
        have hcz37_3 : w8.cell? ⟨gb129, 3, none⟩ = some (.int .i64 a0_3) := (qb BK129.out 3).trans rfl
        have hfz37_0 := qa BK129.out 0
        have hfz37_1 := qa BK129.out 1
        have hfz37_2 := qa BK129.out 2
        have hfz37_3 := qa BK129.out 3
        go_wp2_with (first | (go_at_call 49; (with_reducible refine (mimesisref23_exit.calls k _ _ l0_0 _ _ l0_1 _ _ l0_2 a0_3 a1 (l0_1.length : Int) true _ ?side1 ?side2 ?side3 ?side4 ?side5 ?side6 A11.out).mono ?_); (case side1 => exact Kd.qn HR0_0.out (by repeat (first | (with_reducible first | exact HB.out | apply qe | apply qc | apply qd | refine qh ?_ GE129.out | refine qh ?_ GE131.out) | exact HB.out))); (case side2 => exact HC0_0.out); (case side3 => exact Kd.qn HR0_1.out (by repeat (first | (with_reducible first | exact HB.out | apply qe | apply qc | apply qd | refine qh ?_ GE129.out | refine qh ?_ GE131.out) | exact HB.out))); (case side4 => exact HC0_1.out); (case side5 => exact Kd.qn HR0_2.out (by repeat (first | (with_reducible first | exact HB.out | apply qe | apply qc | apply qd | refine qh ?_ GE129.out | refine qh ?_ GE131.out) | exact HB.out))); (case side6 => exact HC0_2.out); rintro e w38 ⟨rfl, hb⟩; have n0_ := Aside0.mk (qo (g := gb129) (o := .cells #[.slice A0_0 l0_0.length c0_0, .slice A0_1 l0_1.length c0_1, .slice (some ad130) l0_2.length c0_2, .int .i64 a0_3] 26 (0, 0)) (by (with_reducible repeat (first | refine qg ?_ _ | refine qi ?_ | refine qf ?_ _)); refine qp ?_ NB129_131.out _; (with_reducible repeat (first | refine qg ?_ _ | refine qi ?_ | refine qf ?_ _)); refine qp ?_ NB129_131.out _; (with_reducible repeat (first | refine qg ?_ _ | refine qi ?_ | refine qf ?_ _)); refine qp ?_ NB129_131.out _; (with_reducible repeat (first | refine qg ?_ _ | refine qi ?_ | refine qf ?_ _)); refine qp ?_ NB129_131.out _; (with_reducible repeat (first | refine qg ?_ _ | refine qi ?_ | refine qf ?_ _)); refine qp ?_ NB129_131.out _; (with_reducible repeat (first | refine qg ?_ _ | refine qi ?_ | refine qf ?_ _)); exact BK129.out) hb); have n1_ := Aside0.mk (qo (g := gb131) (o := .cells #[.int .i64 ((qj l0_2 a1).f0), .int .u32 ((qj l0_2 a1).f1), .int .i64 ((qj l0_2 a1).f2), .int .i64 ((qj l0_2 a1).f3), .slice A130_4 ((qj l0_2 a1).f4).length c130_4] 65 (0, 0)) (by (with_reducible repeat (first | refine qg ?_ _ | refine qi ?_ | refine qf ?_ _)); refine qt (cs := #[.int .i64 ((qj l0_2 a1).f0), .int .u32 ((qj l0_2 a1).f1), .int .i64 ((qj l0_2 a1).f2), .int .i64 ((qj l0_2 a1).f3), .slice none 0 0]) ?_ 4 _ rfl; (with_reducible repeat (first | refine qg ?_ _ | refine qi ?_ | refine qf ?_ _)); refine qt (cs := #[.int .i64 ((qj l0_2 a1).f0), .int .u32 ((qj l0_2 a1).f1), .int .i64 ((qj l0_2 a1).f2), .int .i64 0, .slice none 0 0]) ?_ 3 _ rfl; (with_reducible repeat (first | refine qg ?_ _ | refine qi ?_ | refine qf ?_ _)); refine qt (cs := #[.int .i64 ((qj l0_2 a1).f0), .int .u32 ((qj l0_2 a1).f1), .int .i64 0, .int .i64 0, .slice none 0 0]) ?_ 2 _ rfl; (with_reducible repeat (first | refine qg ?_ _ | refine qi ?_ | refine qf ?_ _)); refine qt (cs := #[.int .i64 ((qj l0_2 a1).f0), .int .u32 0, .int .i64 0, .int .i64 0, .slice none 0 0]) ?_ 1 _ rfl; (with_reducible repeat (first | refine qg ?_ _ | refine qi ?_ | refine qf ?_ _)); refine qt (cs := #[.int .i64 0, .int .u32 0, .int .i64 0, .int .i64 0, .slice none 0 0]) ?_ 0 _ rfl; (with_reducible repeat (first | refine qg ?_ _ | refine qi ?_ | refine qf ?_ _)); exact BK131.out) hb); have n2_ := Aside0.mk (qq (by repeat (first | (with_reducible first | exact HB.out | apply qe | apply qc | apply qd | refine qh ?_ GE129.out | refine qh ?_ GE131.out) | exact HB.out)) hb); clear BK129; clear BK131; clear HB; have BK129 := n0_; have BK131 := n1_; have HB := n2_; clear n0_ n1_ n2_; (try clear hb); (try clear hb2); (try clear hk); (try clear hi); have hcz39_0 : w38.cell? ⟨gb131, 0, none⟩ = some (.int .i64 ((qj l0_2 a1).f0)) := (qb BK131.out 0).trans rfl; have hcz39_1 : w38.cell? ⟨gb131, 1, none⟩ = some (.int .u32 ((qj l0_2 a1).f1)) := (qb BK131.out 1).trans rfl; have hcz39_2 : w38.cell? ⟨gb131, 2, none⟩ = some (.int .i64 ((qj l0_2 a1).f2)) := (qb BK131.out 2).trans rfl; have hcz39_3 : w38.cell? ⟨gb131, 3, none⟩ = some (.int .i64 ((qj l0_2 a1).f3)) := (qb BK131.out 3).trans rfl; have hcz39_4 : w38.cell? ⟨gb131, 4, none⟩ = some (.slice A130_4 ((qj l0_2 a1).f4).length c130_4) := (qb BK131.out 4).trans rfl; have hfz39_0 := qa BK131.out 0; have hfz39_1 := qa BK131.out 1; have hfz39_2 := qa BK131.out 2; have hfz39_3 := qa BK131.out 3; have hfz39_4 := qa BK131.out 4; have hcz40_0 : w38.cell? ⟨gb129, 0, none⟩ = some (.slice A0_0 l0_0.length c0_0) := (qb BK129.out 0).trans rfl; have hcz40_1 : w38.cell? ⟨gb129, 1, none⟩ = some (.slice A0_1 l0_1.length c0_1) := (qb BK129.out 1).trans rfl; have hcz40_2 : w38.cell? ⟨gb129, 2, none⟩ = some (.slice (some ad130) l0_2.length c0_2) := (qb BK129.out 2).trans rfl; have hcz40_3 : w38.cell? ⟨gb129, 3, none⟩ = some (.int .i64 a0_3) := (qb BK129.out 3).trans rfl; have hfz40_0 := qa BK129.out 0; have hfz40_1 := qa BK129.out 1; have hfz40_2 := qa BK129.out 2; have hfz40_3 := qa BK129.out 3))
        repeat (go_quiet (first | (go_at_call 49; (with_reducible refine (mimesisref23_exit.calls k _ _ l0_0 _ _ l0_1 _ _ l0_2 a0_3 a1 (l0_1.length : Int) true _ ?side1 ?side2 ?side3 ?side4 ?side5 ?side6 A11.out).mono ?_); (case side1 => exact Kd.qn HR0_0.out (by repeat (first | (with_reducible first | exact HB.out | apply qe | apply qc | apply qd | refine qh ?_ GE129.out | refine qh ?_ GE131.out) | exact HB.out))); (case side2 => exact HC0_0.out); (case side3 => exact Kd.qn HR0_1.out (by repeat (first | (with_reducible first | exact HB.out | apply qe | apply qc | apply qd | refine qh ?_ GE129.out | refine qh ?_ GE131.out) | exact HB.out))); (case side4 => exact HC0_1.out); (case side5 => exact Kd.qn HR0_2.out (by repeat (first | (with_reducible first | exact HB.out | apply qe | apply qc | apply qd | refine qh ?_ GE129.out | refine qh ?_ GE131.out) | exact HB.out))); (case side6 => exact HC0_2.out); rintro e w38 ⟨rfl, hb⟩; have n0_ := Aside0.mk (qo (g := gb129) (o := .cells #[.slice A0_0 l0_0.length c0_0, .slice A0_1 l0_1.length c0_1, .slice (some ad130) l0_2.length c0_2, .int .i64 a0_3] 26 (0, 0)) (by (with_reducible repeat (first | refine qg ?_ _ | refine qi ?_ | refine qf ?_ _)); refine qp ?_ NB129_131.out _; (with_reducible repeat (first | refine qg ?_ _ | refine qi ?_ | refine qf ?_ _)); refine qp ?_ NB129_131.out _; (with_reducible repeat (first | refine qg ?_ _ | refine qi ?_ | refine qf ?_ _)); refine qp ?_ NB129_131.out _; (with_reducible repeat (first | refine qg ?_ _ | refine qi ?_ | refine qf ?_ _)); refine qp ?_ NB129_131.out _; (with_reducible repeat (first | refine qg ?_ _ | refine qi ?_ | refine qf ?_ _)); refine qp ?_ NB129_131.out _; (with_reducible repeat (first | refine qg ?_ _ | refine qi ?_ | refine qf ?_ _)); exact BK129.out) hb); have n1_ := Aside0.mk (qo (g := gb131) (o := .cells #[.int .i64 ((qj l0_2 a1).f0), .int .u32 ((qj l0_2 a1).f1), .int .i64 ((qj l0_2 a1).f2), .int .i64 ((qj l0_2 a1).f3), .slice A130_4 ((qj l0_2 a1).f4).length c130_4] 65 (0, 0)) (by (with_reducible repeat (first | refine qg ?_ _ | refine qi ?_ | refine qf ?_ _)); refine qt (cs := #[.int .i64 ((qj l0_2 a1).f0), .int .u32 ((qj l0_2 a1).f1), .int .i64 ((qj l0_2 a1).f2), .int .i64 ((qj l0_2 a1).f3), .slice none 0 0]) ?_ 4 _ rfl; (with_reducible repeat (first | refine qg ?_ _ | refine qi ?_ | refine qf ?_ _)); refine qt (cs := #[.int .i64 ((qj l0_2 a1).f0), .int .u32 ((qj l0_2 a1).f1), .int .i64 ((qj l0_2 a1).f2), .int .i64 0, .slice none 0 0]) ?_ 3 _ rfl; (with_reducible repeat (first | refine qg ?_ _ | refine qi ?_ | refine qf ?_ _)); refine qt (cs := #[.int .i64 ((qj l0_2 a1).f0), .int .u32 ((qj l0_2 a1).f1), .int .i64 0, .int .i64 0, .slice none 0 0]) ?_ 2 _ rfl; (with_reducible repeat (first | refine qg ?_ _ | refine qi ?_ | refine qf ?_ _)); refine qt (cs := #[.int .i64 ((qj l0_2 a1).f0), .int .u32 0, .int .i64 0, .int .i64 0, .slice none 0 0]) ?_ 1 _ rfl; (with_reducible repeat (first | refine qg ?_ _ | refine qi ?_ | refine qf ?_ _)); refine qt (cs := #[.int .i64 0, .int .u32 0, .int .i64 0, .int .i64 0, .slice none 0 0]) ?_ 0 _ rfl; (with_reducible repeat (first | refine qg ?_ _ | refine qi ?_ | refine qf ?_ _)); exact BK131.out) hb); have n2_ := Aside0.mk (qq (by repeat (first | (with_reducible first | exact HB.out | apply qe | apply qc | apply qd | refine qh ?_ GE129.out | refine qh ?_ GE131.out) | exact HB.out)) hb); clear BK129; clear BK131; clear HB; have BK129 := n0_; have BK131 := n1_; have HB := n2_; clear n0_ n1_ n2_; (try clear hb); (try clear hb2); (try clear hk); (try clear hi); have hcz39_0 : w38.cell? ⟨gb131, 0, none⟩ = some (.int .i64 ((qj l0_2 a1).f0)) := (qb BK131.out 0).trans rfl; have hcz39_1 : w38.cell? ⟨gb131, 1, none⟩ = some (.int .u32 ((qj l0_2 a1).f1)) := (qb BK131.out 1).trans rfl; have hcz39_2 : w38.cell? ⟨gb131, 2, none⟩ = some (.int .i64 ((qj l0_2 a1).f2)) := (qb BK131.out 2).trans rfl; have hcz39_3 : w38.cell? ⟨gb131, 3, none⟩ = some (.int .i64 ((qj l0_2 a1).f3)) := (qb BK131.out 3).trans rfl; have hcz39_4 : w38.cell? ⟨gb131, 4, none⟩ = some (.slice A130_4 ((qj l0_2 a1).f4).length c130_4) := (qb BK131.out 4).trans rfl; have hfz39_0 := qa BK131.out 0; have hfz39_1 := qa BK131.out 1; have hfz39_2 := qa BK131.out 2; have hfz39_3 := qa BK131.out 3; have hfz39_4 := qa BK131.out 4; have hcz40_0 : w38.cell? ⟨gb129, 0, none⟩ = some (.slice A0_0 l0_0.length c0_0) := (qb BK129.out 0).trans rfl; have hcz40_1 : w38.cell? ⟨gb129, 1, none⟩ = some (.slice A0_1 l0_1.length c0_1) := (qb BK129.out 1).trans rfl; have hcz40_2 : w38.cell? ⟨gb129, 2, none⟩ = some (.slice (some ad130) l0_2.length c0_2) := (qb BK129.out 2).trans rfl; have hcz40_3 : w38.cell? ⟨gb129, 3, none⟩ = some (.int .i64 a0_3) := (qb BK129.out 3).trans rfl; have hfz40_0 := qa BK129.out 0; have hfz40_1 := qa BK129.out 1; have hfz40_2 := qa BK129.out 2; have hfz40_3 := qa BK129.out 3)); try go_wp2_with (first | (go_at_call 49; (with_reducible refine (mimesisref23_exit.calls k _ _ l0_0 _ _ l0_1 _ _ l0_2 a0_3 a1 (l0_1.length : Int) true _ ?side1 ?side2 ?side3 ?side4 ?side5 ?side6 A11.out).mono ?_); (case side1 => exact Kd.qn HR0_0.out (by repeat (first | (with_reducible first | exact HB.out | apply qe | apply qc | apply qd | refine qh ?_ GE129.out | refine qh ?_ GE131.out) | exact HB.out))); (case side2 => exact HC0_0.out); (case side3 => exact Kd.qn HR0_1.out (by repeat (first | (with_reducible first | exact HB.out | apply qe | apply qc | apply qd | refine qh ?_ GE129.out | refine qh ?_ GE131.out) | exact HB.out))); (case side4 => exact HC0_1.out); (case side5 => exact Kd.qn HR0_2.out (by repeat (first | (with_reducible first | exact HB.out | apply qe | apply qc | apply qd | refine qh ?_ GE129.out | refine qh ?_ GE131.out) | exact HB.out))); (case side6 => exact HC0_2.out); rintro e w38 ⟨rfl, hb⟩; have n0_ := Aside0.mk (qo (g := gb129) (o := .cells #[.slice A0_0 l0_0.length c0_0, .slice A0_1 l0_1.length c0_1, .slice (some ad130) l0_2.length c0_2, .int .i64 a0_3] 26 (0, 0)) (by (with_reducible repeat (first | refine qg ?_ _ | refine qi ?_ | refine qf ?_ _)); refine qp ?_ NB129_131.out _; (with_reducible repeat (first | refine qg ?_ _ | refine qi ?_ | refine qf ?_ _)); refine qp ?_ NB129_131.out _; (with_reducible repeat (first | refine qg ?_ _ | refine qi ?_ | refine qf ?_ _)); refine qp ?_ NB129_131.out _; (with_reducible repeat (first | refine qg ?_ _ | refine qi ?_ | refine qf ?_ _)); refine qp ?_ NB129_131.out _; (with_reducible repeat (first | refine qg ?_ _ | refine qi ?_ | refine qf ?_ _)); refine qp ?_ NB129_131.out _; (with_reducible repeat (first | refine qg ?_ _ | refine qi ?_ | refine qf ?_ _)); exact BK129.out) hb); have n1_ := Aside0.mk (qo (g := gb131) (o := .cells #[.int .i64 ((qj l0_2 a1).f0), .int .u32 ((qj l0_2 a1).f1), .int .i64 ((qj l0_2 a1).f2), .int .i64 ((qj l0_2 a1).f3), .slice A130_4 ((qj l0_2 a1).f4).length c130_4] 65 (0, 0)) (by (with_reducible repeat (first | refine qg ?_ _ | refine qi ?_ | refine qf ?_ _)); refine qt (cs := #[.int .i64 ((qj l0_2 a1).f0), .int .u32 ((qj l0_2 a1).f1), .int .i64 ((qj l0_2 a1).f2), .int .i64 ((qj l0_2 a1).f3), .slice none 0 0]) ?_ 4 _ rfl; (with_reducible repeat (first | refine qg ?_ _ | refine qi ?_ | refine qf ?_ _)); refine qt (cs := #[.int .i64 ((qj l0_2 a1).f0), .int .u32 ((qj l0_2 a1).f1), .int .i64 ((qj l0_2 a1).f2), .int .i64 0, .slice none 0 0]) ?_ 3 _ rfl; (with_reducible repeat (first | refine qg ?_ _ | refine qi ?_ | refine qf ?_ _)); refine qt (cs := #[.int .i64 ((qj l0_2 a1).f0), .int .u32 ((qj l0_2 a1).f1), .int .i64 0, .int .i64 0, .slice none 0 0]) ?_ 2 _ rfl; (with_reducible repeat (first | refine qg ?_ _ | refine qi ?_ | refine qf ?_ _)); refine qt (cs := #[.int .i64 ((qj l0_2 a1).f0), .int .u32 0, .int .i64 0, .int .i64 0, .slice none 0 0]) ?_ 1 _ rfl; (with_reducible repeat (first | refine qg ?_ _ | refine qi ?_ | refine qf ?_ _)); refine qt (cs := #[.int .i64 0, .int .u32 0, .int .i64 0, .int .i64 0, .slice none 0 0]) ?_ 0 _ rfl; (with_reducible repeat (first | refine qg ?_ _ | refine qi ?_ | refine qf ?_ _)); exact BK131.out) hb); have n2_ := Aside0.mk (qq (by repeat (first | (with_reducible first | exact HB.out | apply qe | apply qc | apply qd | refine qh ?_ GE129.out | refine qh ?_ GE131.out) | exact HB.out)) hb); clear BK129; clear BK131; clear HB; have BK129 := n0_; have BK131 := n1_; have HB := n2_; clear n0_ n1_ n2_; (try clear hb); (try clear hb2); (try clear hk); (try clear hi); have hcz39_0 : w38.cell? ⟨gb131, 0, none⟩ = some (.int .i64 ((qj l0_2 a1).f0)) := (qb BK131.out 0).trans rfl; have hcz39_1 : w38.cell? ⟨gb131, 1, none⟩ = some (.int .u32 ((qj l0_2 a1).f1)) := (qb BK131.out 1).trans rfl; have hcz39_2 : w38.cell? ⟨gb131, 2, none⟩ = some (.int .i64 ((qj l0_2 a1).f2)) := (qb BK131.out 2).trans rfl; have hcz39_3 : w38.cell? ⟨gb131, 3, none⟩ = some (.int .i64 ((qj l0_2 a1).f3)) := (qb BK131.out 3).trans rfl; have hcz39_4 : w38.cell? ⟨gb131, 4, none⟩ = some (.slice A130_4 ((qj l0_2 a1).f4).length c130_4) := (qb BK131.out 4).trans rfl; have hfz39_0 := qa BK131.out 0; have hfz39_1 := qa BK131.out 1; have hfz39_2 := qa BK131.out 2; have hfz39_3 := qa BK131.out 3; have hfz39_4 := qa BK131.out 4; have hcz40_0 : w38.cell? ⟨gb129, 0, none⟩ = some (.slice A0_0 l0_0.length c0_0) := (qb BK129.out 0).trans rfl; have hcz40_1 : w38.cell? ⟨gb129, 1, none⟩ = some (.slice A0_1 l0_1.length c0_1) := (qb BK129.out 1).trans rfl; have hcz40_2 : w38.cell? ⟨gb129, 2, none⟩ = some (.slice (some ad130) l0_2.length c0_2) := (qb BK129.out 2).trans rfl; have hcz40_3 : w38.cell? ⟨gb129, 3, none⟩ = some (.int .i64 a0_3) := (qb BK129.out 3).trans rfl; have hfz40_0 := qa BK129.out 0; have hfz40_1 := qa BK129.out 1; have hfz40_2 := qa BK129.out 2; have hfz40_3 := qa BK129.out 3)))
        go_meet
        case rel => exact ⟨_, (true), (by first | rfl | (simp; done) | (simp [*]; done)), H', ⟨by first | omega | exact Nat.le_refl _⟩, ⟨by (with_reducible repeat (first | refine qg ?_ _ | refine qi ?_ | refine qf ?_ _)); exact BK129.out⟩, ⟨by (with_reducible repeat (first | refine qg ?_ _ | refine qi ?_ | refine qf ?_ _)); exact BK131.out⟩, ⟨by repeat (first | (with_reducible first | exact HB.out | apply qe | apply qc | apply qd | refine qh ?_ GE129.out | refine qh ?_ GE131.out) | exact HB.out)⟩⟩
    ·replace c12 := Bool.eq_false_iff.mpr c12
     subst c12
     have H1 : (mimesisref23_leaves.j0 k true ((qj l0_2 a1).f0) ((qj l0_2 a1).f1) ((qj l0_2 a1).f2) ((qj l0_2 a1).f3) ((qj l0_2 a1).f4)) = some r := by rw [if_neg (show ¬ (false = true) by decide)] at H; exact H
     clear H
     have H := H1
     clear H1
     have H' := Aside0.mk H
     clear H
     have hnb41 := NB129_131.out
     have hnc41 := NB131_129.out
     have hcz42_0 : w8.cell? ⟨gb129, 0, none⟩ = some (.slice A0_0 l0_0.length c0_0) := (qb BK129.out 0).trans rfl
     have hcz42_1 : w8.cell? ⟨gb129, 1, none⟩ = some (.slice A0_1 l0_1.length c0_1) := (qb BK129.out 1).trans rfl
     have hcz42_2 : w8.cell? ⟨gb129, 2, none⟩ = some (.slice (some ad130) l0_2.length c0_2) := (qb BK129.out 2).trans rfl
     have hcz42_3 : w8.cell? ⟨gb129, 3, none⟩ = some (.int .i64 a0_3) := (qb BK129.out 3).trans rfl
     have hfz42_0 := qa BK129.out 0
     have hfz42_1 := qa BK129.out 1
     have hfz42_2 := qa BK129.out 2
     have hfz42_3 := qa BK129.out 3
     go_wp2_with (first | (go_at_call 49; (with_reducible refine (mimesisref23_exit.calls k _ _ l0_0 _ _ l0_1 _ _ l0_2 a0_3 a1 (l0_1.length : Int) false _ ?side1 ?side2 ?side3 ?side4 ?side5 ?side6 A11.out).mono ?_); (case side1 => exact Kd.qn HR0_0.out (by repeat (first | (with_reducible first | exact HB.out | apply qe | apply qc | apply qd | refine qh ?_ GE129.out | refine qh ?_ GE131.out) | exact HB.out))); (case side2 => exact HC0_0.out); (case side3 => exact Kd.qn HR0_1.out (by repeat (first | (with_reducible first | exact HB.out | apply qe | apply qc | apply qd | refine qh ?_ GE129.out | refine qh ?_ GE131.out) | exact HB.out))); (case side4 => exact HC0_1.out); (case side5 => exact Kd.qn HR0_2.out (by repeat (first | (with_reducible first | exact HB.out | apply qe | apply qc | apply qd | refine qh ?_ GE129.out | refine qh ?_ GE131.out) | exact HB.out))); (case side6 => exact HC0_2.out); rintro e w43 ⟨rfl, hb⟩; have n0_ := Aside0.mk (qo (g := gb129) (o := .cells #[.slice A0_0 l0_0.length c0_0, .slice A0_1 l0_1.length c0_1, .slice (some ad130) l0_2.length c0_2, .int .i64 a0_3] 26 (0, 0)) (by (with_reducible repeat (first | refine qg ?_ _ | refine qi ?_ | refine qf ?_ _)); refine qp ?_ NB129_131.out _; (with_reducible repeat (first | refine qg ?_ _ | refine qi ?_ | refine qf ?_ _)); refine qp ?_ NB129_131.out _; (with_reducible repeat (first | refine qg ?_ _ | refine qi ?_ | refine qf ?_ _)); refine qp ?_ NB129_131.out _; (with_reducible repeat (first | refine qg ?_ _ | refine qi ?_ | refine qf ?_ _)); refine qp ?_ NB129_131.out _; (with_reducible repeat (first | refine qg ?_ _ | refine qi ?_ | refine qf ?_ _)); refine qp ?_ NB129_131.out _; (with_reducible repeat (first | refine qg ?_ _ | refine qi ?_ | refine qf ?_ _)); exact BK129.out) hb); have n1_ := Aside0.mk (qo (g := gb131) (o := .cells #[.int .i64 ((qj l0_2 a1).f0), .int .u32 ((qj l0_2 a1).f1), .int .i64 ((qj l0_2 a1).f2), .int .i64 ((qj l0_2 a1).f3), .slice A130_4 ((qj l0_2 a1).f4).length c130_4] 65 (0, 0)) (by (with_reducible repeat (first | refine qg ?_ _ | refine qi ?_ | refine qf ?_ _)); refine qt (cs := #[.int .i64 ((qj l0_2 a1).f0), .int .u32 ((qj l0_2 a1).f1), .int .i64 ((qj l0_2 a1).f2), .int .i64 ((qj l0_2 a1).f3), .slice none 0 0]) ?_ 4 _ rfl; (with_reducible repeat (first | refine qg ?_ _ | refine qi ?_ | refine qf ?_ _)); refine qt (cs := #[.int .i64 ((qj l0_2 a1).f0), .int .u32 ((qj l0_2 a1).f1), .int .i64 ((qj l0_2 a1).f2), .int .i64 0, .slice none 0 0]) ?_ 3 _ rfl; (with_reducible repeat (first | refine qg ?_ _ | refine qi ?_ | refine qf ?_ _)); refine qt (cs := #[.int .i64 ((qj l0_2 a1).f0), .int .u32 ((qj l0_2 a1).f1), .int .i64 0, .int .i64 0, .slice none 0 0]) ?_ 2 _ rfl; (with_reducible repeat (first | refine qg ?_ _ | refine qi ?_ | refine qf ?_ _)); refine qt (cs := #[.int .i64 ((qj l0_2 a1).f0), .int .u32 0, .int .i64 0, .int .i64 0, .slice none 0 0]) ?_ 1 _ rfl; (with_reducible repeat (first | refine qg ?_ _ | refine qi ?_ | refine qf ?_ _)); refine qt (cs := #[.int .i64 0, .int .u32 0, .int .i64 0, .int .i64 0, .slice none 0 0]) ?_ 0 _ rfl; (with_reducible repeat (first | refine qg ?_ _ | refine qi ?_ | refine qf ?_ _)); exact BK131.out) hb); have n2_ := Aside0.mk (qq (by repeat (first | (with_reducible first | exact HB.out | apply qe | apply qc | apply qd | refine qh ?_ GE129.out | refine qh ?_ GE131.out) | exact HB.out)) hb); clear BK129; clear BK131; clear HB; have BK129 := n0_; have BK131 := n1_; have HB := n2_; clear n0_ n1_ n2_; (try clear hb); (try clear hb2); (try clear hk); (try clear hi)))
     repeat (go_quiet (first | (go_at_call 49; (with_reducible refine (mimesisref23_exit.calls k _ _ l0_0 _ _ l0_1 _ _ l0_2 a0_3 a1 (l0_1.length : Int) false _ ?side1 ?side2 ?side3 ?side4 ?side5 ?side6 A11.out).mono ?_); (case side1 => exact Kd.qn HR0_0.out (by repeat (first | (with_reducible first | exact HB.out | apply qe | apply qc | apply qd | refine qh ?_ GE129.out | refine qh ?_ GE131.out) | exact HB.out))); (case side2 => exact HC0_0.out); (case side3 => exact Kd.qn HR0_1.out (by repeat (first | (with_reducible first | exact HB.out | apply qe | apply qc | apply qd | refine qh ?_ GE129.out | refine qh ?_ GE131.out) | exact HB.out))); (case side4 => exact HC0_1.out); (case side5 => exact Kd.qn HR0_2.out (by repeat (first | (with_reducible first | exact HB.out | apply qe | apply qc | apply qd | refine qh ?_ GE129.out | refine qh ?_ GE131.out) | exact HB.out))); (case side6 => exact HC0_2.out); rintro e w43 ⟨rfl, hb⟩; have n0_ := Aside0.mk (qo (g := gb129) (o := .cells #[.slice A0_0 l0_0.length c0_0, .slice A0_1 l0_1.length c0_1, .slice (some ad130) l0_2.length c0_2, .int .i64 a0_3] 26 (0, 0)) (by (with_reducible repeat (first | refine qg ?_ _ | refine qi ?_ | refine qf ?_ _)); refine qp ?_ NB129_131.out _; (with_reducible repeat (first | refine qg ?_ _ | refine qi ?_ | refine qf ?_ _)); refine qp ?_ NB129_131.out _; (with_reducible repeat (first | refine qg ?_ _ | refine qi ?_ | refine qf ?_ _)); refine qp ?_ NB129_131.out _; (with_reducible repeat (first | refine qg ?_ _ | refine qi ?_ | refine qf ?_ _)); refine qp ?_ NB129_131.out _; (with_reducible repeat (first | refine qg ?_ _ | refine qi ?_ | refine qf ?_ _)); refine qp ?_ NB129_131.out _; (with_reducible repeat (first | refine qg ?_ _ | refine qi ?_ | refine qf ?_ _)); exact BK129.out) hb); have n1_ := Aside0.mk (qo (g := gb131) (o := .cells #[.int .i64 ((qj l0_2 a1).f0), .int .u32 ((qj l0_2 a1).f1), .int .i64 ((qj l0_2 a1).f2), .int .i64 ((qj l0_2 a1).f3), .slice A130_4 ((qj l0_2 a1).f4).length c130_4] 65 (0, 0)) (by (with_reducible repeat (first | refine qg ?_ _ | refine qi ?_ | refine qf ?_ _)); refine qt (cs := #[.int .i64 ((qj l0_2 a1).f0), .int .u32 ((qj l0_2 a1).f1), .int .i64 ((qj l0_2 a1).f2), .int .i64 ((qj l0_2 a1).f3), .slice none 0 0]) ?_ 4 _ rfl; (with_reducible repeat (first | refine qg ?_ _ | refine qi ?_ | refine qf ?_ _)); refine qt (cs := #[.int .i64 ((qj l0_2 a1).f0), .int .u32 ((qj l0_2 a1).f1), .int .i64 ((qj l0_2 a1).f2), .int .i64 0, .slice none 0 0]) ?_ 3 _ rfl; (with_reducible repeat (first | refine qg ?_ _ | refine qi ?_ | refine qf ?_ _)); refine qt (cs := #[.int .i64 ((qj l0_2 a1).f0), .int .u32 ((qj l0_2 a1).f1), .int .i64 0, .int .i64 0, .slice none 0 0]) ?_ 2 _ rfl; (with_reducible repeat (first | refine qg ?_ _ | refine qi ?_ | refine qf ?_ _)); refine qt (cs := #[.int .i64 ((qj l0_2 a1).f0), .int .u32 0, .int .i64 0, .int .i64 0, .slice none 0 0]) ?_ 1 _ rfl; (with_reducible repeat (first | refine qg ?_ _ | refine qi ?_ | refine qf ?_ _)); refine qt (cs := #[.int .i64 0, .int .u32 0, .int .i64 0, .int .i64 0, .slice none 0 0]) ?_ 0 _ rfl; (with_reducible repeat (first | refine qg ?_ _ | refine qi ?_ | refine qf ?_ _)); exact BK131.out) hb); have n2_ := Aside0.mk (qq (by repeat (first | (with_reducible first | exact HB.out | apply qe | apply qc | apply qd | refine qh ?_ GE129.out | refine qh ?_ GE131.out) | exact HB.out)) hb); clear BK129; clear BK131; clear HB; have BK129 := n0_; have BK131 := n1_; have HB := n2_; clear n0_ n1_ n2_; (try clear hb); (try clear hb2); (try clear hk); (try clear hi))); try go_wp2_with (first | (go_at_call 49; (with_reducible refine (mimesisref23_exit.calls k _ _ l0_0 _ _ l0_1 _ _ l0_2 a0_3 a1 (l0_1.length : Int) false _ ?side1 ?side2 ?side3 ?side4 ?side5 ?side6 A11.out).mono ?_); (case side1 => exact Kd.qn HR0_0.out (by repeat (first | (with_reducible first | exact HB.out | apply qe | apply qc | apply qd | refine qh ?_ GE129.out | refine qh ?_ GE131.out) | exact HB.out))); (case side2 => exact HC0_0.out); (case side3 => exact Kd.qn HR0_1.out (by repeat (first | (with_reducible first | exact HB.out | apply qe | apply qc | apply qd | refine qh ?_ GE129.out | refine qh ?_ GE131.out) | exact HB.out))); (case side4 => exact HC0_1.out); (case side5 => exact Kd.qn HR0_2.out (by repeat (first | (with_reducible first | exact HB.out | apply qe | apply qc | apply qd | refine qh ?_ GE129.out | refine qh ?_ GE131.out) | exact HB.out))); (case side6 => exact HC0_2.out); rintro e w43 ⟨rfl, hb⟩; have n0_ := Aside0.mk (qo (g := gb129) (o := .cells #[.slice A0_0 l0_0.length c0_0, .slice A0_1 l0_1.length c0_1, .slice (some ad130) l0_2.length c0_2, .int .i64 a0_3] 26 (0, 0)) (by (with_reducible repeat (first | refine qg ?_ _ | refine qi ?_ | refine qf ?_ _)); refine qp ?_ NB129_131.out _; (with_reducible repeat (first | refine qg ?_ _ | refine qi ?_ | refine qf ?_ _)); refine qp ?_ NB129_131.out _; (with_reducible repeat (first | refine qg ?_ _ | refine qi ?_ | refine qf ?_ _)); refine qp ?_ NB129_131.out _; (with_reducible repeat (first | refine qg ?_ _ | refine qi ?_ | refine qf ?_ _)); refine qp ?_ NB129_131.out _; (with_reducible repeat (first | refine qg ?_ _ | refine qi ?_ | refine qf ?_ _)); refine qp ?_ NB129_131.out _; (with_reducible repeat (first | refine qg ?_ _ | refine qi ?_ | refine qf ?_ _)); exact BK129.out) hb); have n1_ := Aside0.mk (qo (g := gb131) (o := .cells #[.int .i64 ((qj l0_2 a1).f0), .int .u32 ((qj l0_2 a1).f1), .int .i64 ((qj l0_2 a1).f2), .int .i64 ((qj l0_2 a1).f3), .slice A130_4 ((qj l0_2 a1).f4).length c130_4] 65 (0, 0)) (by (with_reducible repeat (first | refine qg ?_ _ | refine qi ?_ | refine qf ?_ _)); refine qt (cs := #[.int .i64 ((qj l0_2 a1).f0), .int .u32 ((qj l0_2 a1).f1), .int .i64 ((qj l0_2 a1).f2), .int .i64 ((qj l0_2 a1).f3), .slice none 0 0]) ?_ 4 _ rfl; (with_reducible repeat (first | refine qg ?_ _ | refine qi ?_ | refine qf ?_ _)); refine qt (cs := #[.int .i64 ((qj l0_2 a1).f0), .int .u32 ((qj l0_2 a1).f1), .int .i64 ((qj l0_2 a1).f2), .int .i64 0, .slice none 0 0]) ?_ 3 _ rfl; (with_reducible repeat (first | refine qg ?_ _ | refine qi ?_ | refine qf ?_ _)); refine qt (cs := #[.int .i64 ((qj l0_2 a1).f0), .int .u32 ((qj l0_2 a1).f1), .int .i64 0, .int .i64 0, .slice none 0 0]) ?_ 2 _ rfl; (with_reducible repeat (first | refine qg ?_ _ | refine qi ?_ | refine qf ?_ _)); refine qt (cs := #[.int .i64 ((qj l0_2 a1).f0), .int .u32 0, .int .i64 0, .int .i64 0, .slice none 0 0]) ?_ 1 _ rfl; (with_reducible repeat (first | refine qg ?_ _ | refine qi ?_ | refine qf ?_ _)); refine qt (cs := #[.int .i64 0, .int .u32 0, .int .i64 0, .int .i64 0, .slice none 0 0]) ?_ 0 _ rfl; (with_reducible repeat (first | refine qg ?_ _ | refine qi ?_ | refine qf ?_ _)); exact BK131.out) hb); have n2_ := Aside0.mk (qq (by repeat (first | (with_reducible first | exact HB.out | apply qe | apply qc | apply qd | refine qh ?_ GE129.out | refine qh ?_ GE131.out) | exact HB.out)) hb); clear BK129; clear BK131; clear HB; have BK129 := n0_; have BK131 := n1_; have HB := n2_; clear n0_ n1_ n2_; (try clear hb); (try clear hb2); (try clear hk); (try clear hi))))
     go_meet
     case rel => exact ⟨_, (true), (by first | rfl | (simp; done) | (simp [*]; done)), H', ⟨by first | omega | exact Nat.le_refl _⟩, ⟨by (with_reducible repeat (first | refine qg ?_ _ | refine qi ?_ | refine qf ?_ _)); exact BK129.out⟩, ⟨by (with_reducible repeat (first | refine qg ?_ _ | refine qi ?_ | refine qf ?_ _)); exact BK131.out⟩, ⟨by repeat (first | (with_reducible first | exact HB.out | apply qe | apply qc | apply qd | refine qh ?_ GE129.out | refine qh ?_ GE131.out) | exact HB.out)⟩⟩
   case rest =>
    clear HC5
    try clear c1
    try clear p1
    try clear q1
    try clear hx1
    try clear c2
    try clear p2
    try clear c3
    try clear c3b0
    try clear c4
    try clear c4b0
    try clear c9
    try clear c12
    try clear c13
    try clear c13b0
    try clear p13
    try clear q13
    try clear hx13
    try clear c14
    try clear c18
    try clear c18b0
    try clear c19
    try clear c24
    try clear c24b0
    try clear c24b1
    try clear c25
    try clear c25b0
    try clear c26
    try clear c31
    try clear c36
    try clear c41
    try clear hcz10_0
    try clear hcz10_1
    try clear hcz10_2
    try clear hcz10_3
    try clear hcz10_4
    try clear hcz15_0
    try clear hcz15_1
    try clear hcz15_2
    try clear hcz15_3
    try clear hcz17_0
    try clear hcz17_1
    try clear hcz17_2
    try clear hcz17_3
    try clear hcz17_4
    try clear hcz20_0
    try clear hcz20_1
    try clear hcz20_2
    try clear hcz20_3
    try clear hcz22_0
    try clear hcz22_1
    try clear hcz22_2
    try clear hcz22_3
    try clear hcz22_4
    try clear hcz23_0
    try clear hcz23_1
    try clear hcz23_2
    try clear hcz23_3
    try clear hcz27_0
    try clear hcz27_1
    try clear hcz27_2
    try clear hcz27_3
    try clear hcz29_0
    try clear hcz29_1
    try clear hcz29_2
    try clear hcz29_3
    try clear hcz29_4
    try clear hcz30_0
    try clear hcz30_1
    try clear hcz30_2
    try clear hcz30_3
    try clear hcz32_0
    try clear hcz32_1
    try clear hcz32_2
    try clear hcz32_3
    try clear hcz34_0
    try clear hcz34_1
    try clear hcz34_2
    try clear hcz34_3
    try clear hcz34_4
    try clear hcz35_0
    try clear hcz35_1
    try clear hcz35_2
    try clear hcz35_3
    try clear hcz37_0
    try clear hcz37_1
    try clear hcz37_2
    try clear hcz37_3
    try clear hcz39_0
    try clear hcz39_1
    try clear hcz39_2
    try clear hcz39_3
    try clear hcz39_4
    try clear hcz40_0
    try clear hcz40_1
    try clear hcz40_2
    try clear hcz40_3
    try clear hcz42_0
    try clear hcz42_1
    try clear hcz42_2
    try clear hcz42_3
    try clear hcz7_0
    try clear hcz7_1
    try clear hcz7_2
    try clear hcz7_3
    try clear hfz10_0
    try clear hfz10_1
    try clear hfz10_2
    try clear hfz10_3
    try clear hfz10_4
    try clear hfz15_0
    try clear hfz15_1
    try clear hfz15_2
    try clear hfz15_3
    try clear hfz17_0
    try clear hfz17_1
    try clear hfz17_2
    try clear hfz17_3
    try clear hfz17_4
    try clear hfz20_0
    try clear hfz20_1
    try clear hfz20_2
    try clear hfz20_3
    try clear hfz22_0
    try clear hfz22_1
    try clear hfz22_2
    try clear hfz22_3
    try clear hfz22_4
    try clear hfz23_0
    try clear hfz23_1
    try clear hfz23_2
    try clear hfz23_3
    try clear hfz27_0
    try clear hfz27_1
    try clear hfz27_2
    try clear hfz27_3
    try clear hfz29_0
    try clear hfz29_1
    try clear hfz29_2
    try clear hfz29_3
    try clear hfz29_4
    try clear hfz30_0
    try clear hfz30_1
    try clear hfz30_2
    try clear hfz30_3
    try clear hfz32_0
    try clear hfz32_1
    try clear hfz32_2
    try clear hfz32_3
    try clear hfz34_0
    try clear hfz34_1
    try clear hfz34_2
    try clear hfz34_3
    try clear hfz34_4
    try clear hfz35_0
    try clear hfz35_1
    try clear hfz35_2
    try clear hfz35_3
    try clear hfz37_0
    try clear hfz37_1
    try clear hfz37_2
    try clear hfz37_3
    try clear hfz39_0
    try clear hfz39_1
    try clear hfz39_2
    try clear hfz39_3
    try clear hfz39_4
    try clear hfz40_0
    try clear hfz40_1
    try clear hfz40_2
    try clear hfz40_3
    try clear hfz42_0
    try clear hfz42_1
    try clear hfz42_2
    try clear hfz42_3
    try clear hfz7_0
    try clear hfz7_1
    try clear hfz7_2
    try clear hfz7_3
    try clear hx130_0
    try clear hx130_1
    try clear hx130_2
    try clear hx130_3
    try clear hx130_4
    try clear p130
    try clear q130
    obtain ⟨kq, x47_4, rfl, HA, HJ4, BK129, BK131, HB⟩ := hcut
    cases kq with
    | zero => exact absurd HA.out (by simp [mimesisref23_leaves.j0])
    | succ kj4 =>
     have H := HA.out
     clear HA
     simp only [mimesisref23_leaves.j0] at H
     by_cases c44 : x47_4 = true
     ·subst c44
      have H1 : (some false) = some r := by rw [if_pos rfl] at H; exact H
      clear H
      have H := H1
      clear H1
      obtain rfl := Option.some.inj H
      go_wp2
      repeat (go_quiet (fail); try go_wp2)
      go_ret
      exact ⟨by first | rfl | (simp [ql, qm] <;> rfl) | (simp [*, ql, qm] <;> rfl), by repeat (first | (with_reducible first | exact HB.out | apply qe | apply qc | apply qd | refine qh ?_ GE129.out | refine qh ?_ GE131.out) | exact HB.out)⟩
     ·replace c44 := Bool.eq_false_iff.mpr c44
      subst c44
      have H1 : (mimesisref23_leaves.l0 kj4 0 ((qj l0_2 a1).f0) ((qj l0_2 a1).f1) ((qj l0_2 a1).f2) ((qj l0_2 a1).f3) ((qj l0_2 a1).f4)) = some r := by rw [if_neg (show ¬ (false = true) by decide)] at H; exact H
      clear H
      have H := H1
      clear H1
      have H' := Aside0.mk H
      clear H
      go_wp2
      repeat (go_quiet (fail); try go_wp2)
      go_loopg [6] kj4 (fun kq v6 w' => ∃ (x6_2 : Int), v6 = .int .i64 x6_2 ∧ Aside0 (mimesisref23_leaves.l0 kq x6_2 ((qj l0_2 a1).f0) ((qj l0_2 a1).f1) ((qj l0_2 a1).f2) ((qj l0_2 a1).f3) ((qj l0_2 a1).f4) = some r) ∧ Aside0 (kq ≤ kj4) ∧ Aside0 (w'.heap[gb129]? = some (.cells #[(.slice A0_0 l0_0.length c0_0), (.slice A0_1 l0_1.length c0_1), (.slice (some ad130) l0_2.length c0_2), .int .i64 a0_3] 26 (0, 0))) ∧ Aside0 (w'.heap[gb131]? = some (.cells #[.int .i64 ((qj l0_2 a1).f0), .int .u32 ((qj l0_2 a1).f1), .int .i64 ((qj l0_2 a1).f2), .int .i64 ((qj l0_2 a1).f3), (.slice A130_4 ((qj l0_2 a1).f4).length c130_4)] 65 (0, 0))) ∧ Aside0 (Below w.heap.size w w'))
      case atStart => exact ⟨(0), (by first | rfl | (simp; done) | (simp [*]; done)), H', ⟨Nat.le_refl _⟩, ⟨by (with_reducible repeat (first | refine qg ?_ _ | refine qi ?_ | refine qf ?_ _)); exact BK129.out⟩, ⟨by (with_reducible repeat (first | refine qg ?_ _ | refine qi ?_ | refine qf ?_ _)); exact BK131.out⟩, ⟨by repeat (first | (with_reducible first | exact HB.out | apply qe | apply qc | apply qd | refine qh ?_ GE129.out | refine qh ?_ GE131.out) | exact HB.out)⟩⟩
      case round =>
       clear H'
       try clear c1
       try clear p1
       try clear q1
       try clear hx1
       try clear c2
       try clear p2
       try clear c3
       try clear c3b0
       try clear c4
       try clear c4b0
       try clear c9
       try clear c12
       try clear c13
       try clear c13b0
       try clear p13
       try clear q13
       try clear hx13
       try clear c14
       try clear c18
       try clear c18b0
       try clear c19
       try clear c24
       try clear c24b0
       try clear c24b1
       try clear c25
       try clear c25b0
       try clear c26
       try clear c31
       try clear c36
       try clear c41
       try clear c44
       try clear hcz10_0
       try clear hcz10_1
       try clear hcz10_2
       try clear hcz10_3
       try clear hcz10_4
       try clear hcz15_0
       try clear hcz15_1
       try clear hcz15_2
       try clear hcz15_3
       try clear hcz17_0
       try clear hcz17_1
       try clear hcz17_2
       try clear hcz17_3
       try clear hcz17_4
       try clear hcz20_0
       try clear hcz20_1
       try clear hcz20_2
       try clear hcz20_3
       try clear hcz22_0
       try clear hcz22_1
       try clear hcz22_2
       try clear hcz22_3
       try clear hcz22_4
       try clear hcz23_0
       try clear hcz23_1
       try clear hcz23_2
       try clear hcz23_3
       try clear hcz27_0
       try clear hcz27_1
       try clear hcz27_2
       try clear hcz27_3
       try clear hcz29_0
       try clear hcz29_1
       try clear hcz29_2
       try clear hcz29_3
       try clear hcz29_4
       try clear hcz30_0
       try clear hcz30_1
       try clear hcz30_2
       try clear hcz30_3
       try clear hcz32_0
       try clear hcz32_1
       try clear hcz32_2
       try clear hcz32_3
       try clear hcz34_0
       try clear hcz34_1
       try clear hcz34_2
       try clear hcz34_3
       try clear hcz34_4
       try clear hcz35_0
       try clear hcz35_1
       try clear hcz35_2
       try clear hcz35_3
       try clear hcz37_0
       try clear hcz37_1
       try clear hcz37_2
       try clear hcz37_3
       try clear hcz39_0
       try clear hcz39_1
       try clear hcz39_2
       try clear hcz39_3
       try clear hcz39_4
       try clear hcz40_0
       try clear hcz40_1
       try clear hcz40_2
       try clear hcz40_3
       try clear hcz42_0
       try clear hcz42_1
       try clear hcz42_2
       try clear hcz42_3
       try clear hcz7_0
       try clear hcz7_1
       try clear hcz7_2
       try clear hcz7_3
       try clear hfz10_0
       try clear hfz10_1
       try clear hfz10_2
       try clear hfz10_3
       try clear hfz10_4
       try clear hfz15_0
       try clear hfz15_1
       try clear hfz15_2
       try clear hfz15_3
       try clear hfz17_0
       try clear hfz17_1
       try clear hfz17_2
       try clear hfz17_3
       try clear hfz17_4
       try clear hfz20_0
       try clear hfz20_1
       try clear hfz20_2
       try clear hfz20_3
       try clear hfz22_0
       try clear hfz22_1
       try clear hfz22_2
       try clear hfz22_3
       try clear hfz22_4
       try clear hfz23_0
       try clear hfz23_1
       try clear hfz23_2
       try clear hfz23_3
       try clear hfz27_0
       try clear hfz27_1
       try clear hfz27_2
       try clear hfz27_3
       try clear hfz29_0
       try clear hfz29_1
       try clear hfz29_2
       try clear hfz29_3
       try clear hfz29_4
       try clear hfz30_0
       try clear hfz30_1
       try clear hfz30_2
       try clear hfz30_3
       try clear hfz32_0
       try clear hfz32_1
       try clear hfz32_2
       try clear hfz32_3
       try clear hfz34_0
       try clear hfz34_1
       try clear hfz34_2
       try clear hfz34_3
       try clear hfz34_4
       try clear hfz35_0
       try clear hfz35_1
       try clear hfz35_2
       try clear hfz35_3
       try clear hfz37_0
       try clear hfz37_1
       try clear hfz37_2
       try clear hfz37_3
       try clear hfz39_0
       try clear hfz39_1
       try clear hfz39_2
       try clear hfz39_3
       try clear hfz39_4
       try clear hfz40_0
       try clear hfz40_1
       try clear hfz40_2
       try clear hfz40_3
       try clear hfz42_0
       try clear hfz42_1
       try clear hfz42_2
       try clear hfz42_3
       try clear hfz7_0
       try clear hfz7_1
       try clear hfz7_2
       try clear hfz7_3
       try clear hx130_0
       try clear hx130_1
       try clear hx130_2
       try clear hx130_3
       try clear hx130_4
       try clear p1
       try clear p13
       try clear p130
       try clear p2
       try clear q1
       try clear q13
       try clear q130
       obtain ⟨x6_2, rfl, HA, HK2, BK129, BK131, HB⟩ := hrel
       cases gk with
       | zero => exact absurd HA.out (by simp [mimesisref23_leaves.l0])
       | succ k2 =>
        have H := HA.out
        clear HA
        simp only [mimesisref23_leaves.l0] at H
        by_cases c45 : x6_2 < (((qj l0_2 a1).f4).length : Int)
        ·rw [if_pos c45] at H
         have c45b0 : decide (x6_2 < (((qj l0_2 a1).f4).length : Int)) = true := decide_eq_true c45
         clear c45
         by_cases c46 : 0 ≤ x6_2
         ·rw [if_pos c46] at H
          have c46b0 : decide (0 ≤ x6_2) = true := decide_eq_true c46
          clear c46
          by_cases c47 : ((qH ((qj l0_2 a1).f4) x6_2).f0) < 1
          ·rw [if_pos c47] at H
           have c47b0 : decide (((qH ((qj l0_2 a1).f4) x6_2).f0) < 1) = true := decide_eq_true c47
           clear c47
           obtain rfl := Option.some.inj H
           have hnb48 := NB131_129.out
           have hnc48 := NB129_131.out
           have hcz49_0 : wr.cell? ⟨gb131, 0, none⟩ = some (.int .i64 ((qj l0_2 a1).f0)) := (qb BK131.out 0).trans rfl
           have hcz49_1 : wr.cell? ⟨gb131, 1, none⟩ = some (.int .u32 ((qj l0_2 a1).f1)) := (qb BK131.out 1).trans rfl
           have hcz49_2 : wr.cell? ⟨gb131, 2, none⟩ = some (.int .i64 ((qj l0_2 a1).f2)) := (qb BK131.out 2).trans rfl
           have hcz49_3 : wr.cell? ⟨gb131, 3, none⟩ = some (.int .i64 ((qj l0_2 a1).f3)) := (qb BK131.out 3).trans rfl
           have hcz49_4 : wr.cell? ⟨gb131, 4, none⟩ = some (.slice A130_4 ((qj l0_2 a1).f4).length c130_4) := (qb BK131.out 4).trans rfl
           have hfz49_0 := qa BK131.out 0
           have hfz49_1 := qa BK131.out 1
           have hfz49_2 := qa BK131.out 2
           have hfz49_3 := qa BK131.out 3
           have hfz49_4 := qa BK131.out 4
           have p133 : 0 ≤ (x6_2 : Int) := of_decide_eq_true (by assumption)
           have q133 : x6_2 < (((qj l0_2 a1).f4).length : Int) := of_decide_eq_true (by assumption)
           obtain ⟨ad133, e133, hx133_0, hx133_1⟩ := at_T85 HR130_4.out x6_2 p133 q133
           cases e133
           replace hx133_0 := (HB.out.cell (blc9 w _ hx133_0)).trans hx133_0
           replace hx133_1 := (HB.out.cell (blc9 w _ hx133_1)).trans hx133_1
           replace p133 := eq_true p133
           replace q133 := eq_true q133
           go_wp2
           repeat (go_quiet (fail); try go_wp2)
           go_ret
           exact ⟨by first | rfl | (simp [ql, qm] <;> rfl) | (simp [*, ql, qm] <;> rfl), by repeat (first | (with_reducible first | exact HB.out | apply qe | apply qc | apply qd | refine qh ?_ GE129.out | refine qh ?_ GE131.out) | exact HB.out)⟩
          ·rw [if_neg c47] at H
           have c47b0 : decide (((qH ((qj l0_2 a1).f4) x6_2).f0) < 1) = false := decide_eq_false c47
           clear c47
           by_cases c50 : ((qH ((qj l0_2 a1).f4) x6_2).f0) > 31
           ·rw [if_pos c50] at H
            have c50b0 : decide (31 < ((qH ((qj l0_2 a1).f4) x6_2).f0)) = true := decide_eq_true c50
            clear c50
            obtain rfl := Option.some.inj H
            have hnb51 := NB131_129.out
            have hnc51 := NB129_131.out
            have hcz52_0 : wr.cell? ⟨gb131, 0, none⟩ = some (.int .i64 ((qj l0_2 a1).f0)) := (qb BK131.out 0).trans rfl
            have hcz52_1 : wr.cell? ⟨gb131, 1, none⟩ = some (.int .u32 ((qj l0_2 a1).f1)) := (qb BK131.out 1).trans rfl
            have hcz52_2 : wr.cell? ⟨gb131, 2, none⟩ = some (.int .i64 ((qj l0_2 a1).f2)) := (qb BK131.out 2).trans rfl
            have hcz52_3 : wr.cell? ⟨gb131, 3, none⟩ = some (.int .i64 ((qj l0_2 a1).f3)) := (qb BK131.out 3).trans rfl
            have hcz52_4 : wr.cell? ⟨gb131, 4, none⟩ = some (.slice A130_4 ((qj l0_2 a1).f4).length c130_4) := (qb BK131.out 4).trans rfl
            have hfz52_0 := qa BK131.out 0
            have hfz52_1 := qa BK131.out 1
            have hfz52_2 := qa BK131.out 2
            have hfz52_3 := qa BK131.out 3
            have hfz52_4 := qa BK131.out 4
            have p133 : 0 ≤ (x6_2 : Int) := of_decide_eq_true (by assumption)
            have q133 : x6_2 < (((qj l0_2 a1).f4).length : Int) := of_decide_eq_true (by assumption)
            obtain ⟨ad133, e133, hx133_0, hx133_1⟩ := at_T85 HR130_4.out x6_2 p133 q133
            cases e133
            replace hx133_0 := (HB.out.cell (blc9 w _ hx133_0)).trans hx133_0
            replace hx133_1 := (HB.out.cell (blc9 w _ hx133_1)).trans hx133_1
            replace p133 := eq_true p133
            replace q133 := eq_true q133
            have p134 : 0 ≤ (x6_2 : Int) := of_decide_eq_true (by assumption)
            have q134 : x6_2 < (((qj l0_2 a1).f4).length : Int) := of_decide_eq_true (by assumption)
            obtain ⟨ad134, e134, hx134_0, hx134_1⟩ := at_T85 HR130_4.out x6_2 p134 q134
            obtain rfl : ad133 = ad134 := (by injection e134)
            replace hx134_0 := (HB.out.cell (blc9 w _ hx134_0)).trans hx134_0
            replace hx134_1 := (HB.out.cell (blc9 w _ hx134_1)).trans hx134_1
            replace p134 := eq_true p134
            replace q134 := eq_true q134
            go_wp2
            repeat (go_quiet (fail); try go_wp2)
            go_ret
            exact ⟨by first | rfl | (simp [ql, qm] <;> rfl) | (simp [*, ql, qm] <;> rfl), by repeat (first | (with_reducible first | exact HB.out | apply qe | apply qc | apply qd | refine qh ?_ GE129.out | refine qh ?_ GE131.out) | exact HB.out)⟩
           ·rw [if_neg c50] at H
            have c50b0 : decide (31 < ((qH ((qj l0_2 a1).f4) x6_2).f0)) = false := decide_eq_false c50
            clear c50
            by_cases c53 : x6_2 > 0
            ·rw [if_pos c53] at H
             have c53b0 : decide (0 < x6_2) = true := decide_eq_true c53
             clear c53
             obtain ⟨ji54, hji54⟩ : ∃ j_ : Int, (wrap64 (x6_2 - 1)) = j_ := ⟨_, rfl⟩
             replace H : (if 0 ≤ (ji54) then (if (ji54) < (((qj l0_2 a1).f4).length : Int) then (if ((qH ((qj l0_2 a1).f4) x6_2).f0) ≤ ((qH ((qj l0_2 a1).f4) (ji54)).f0) then (some false) else (mimesisref23_leaves.l0 k2 (wrap64 (x6_2 + 1)) ((qj l0_2 a1).f0) ((qj l0_2 a1).f1) ((qj l0_2 a1).f2) ((qj l0_2 a1).f3) ((qj l0_2 a1).f4))) else (none)) else (none)) = some r := by first | (rw [hji54] at H; exact H) | (simp only [hji54] at H ⊢; exact H)
             have hji54w : (IntKind.i64.wrap (x6_2 - 1)) = ji54 := (i64_w _).trans hji54
             by_cases c55 : 0 ≤ (ji54)
             ·rw [if_pos c55] at H
              have c55b0 : decide (0 ≤ (ji54)) = true := decide_eq_true c55
              clear c55
              by_cases c56 : (ji54) < (((qj l0_2 a1).f4).length : Int)
              ·rw [if_pos c56] at H
               have c56b0 : decide ((ji54) < (((qj l0_2 a1).f4).length : Int)) = true := decide_eq_true c56
               clear c56
               by_cases c57 : ((qH ((qj l0_2 a1).f4) x6_2).f0) ≤ ((qH ((qj l0_2 a1).f4) (ji54)).f0)
               ·rw [if_pos c57] at H
                have c57b0 : decide (((qH ((qj l0_2 a1).f4) x6_2).f0) ≤ ((qH ((qj l0_2 a1).f4) (ji54)).f0)) = true := decide_eq_true c57
                clear c57
                obtain rfl := Option.some.inj H
                have hnb58 := NB131_129.out
                have hnc58 := NB129_131.out
                have hcz59_0 : wr.cell? ⟨gb131, 0, none⟩ = some (.int .i64 ((qj l0_2 a1).f0)) := (qb BK131.out 0).trans rfl
                have hcz59_1 : wr.cell? ⟨gb131, 1, none⟩ = some (.int .u32 ((qj l0_2 a1).f1)) := (qb BK131.out 1).trans rfl
                have hcz59_2 : wr.cell? ⟨gb131, 2, none⟩ = some (.int .i64 ((qj l0_2 a1).f2)) := (qb BK131.out 2).trans rfl
                have hcz59_3 : wr.cell? ⟨gb131, 3, none⟩ = some (.int .i64 ((qj l0_2 a1).f3)) := (qb BK131.out 3).trans rfl
                have hcz59_4 : wr.cell? ⟨gb131, 4, none⟩ = some (.slice A130_4 ((qj l0_2 a1).f4).length c130_4) := (qb BK131.out 4).trans rfl
                have hfz59_0 := qa BK131.out 0
                have hfz59_1 := qa BK131.out 1
                have hfz59_2 := qa BK131.out 2
                have hfz59_3 := qa BK131.out 3
                have hfz59_4 := qa BK131.out 4
                have p133 : 0 ≤ (x6_2 : Int) := of_decide_eq_true (by assumption)
                have q133 : x6_2 < (((qj l0_2 a1).f4).length : Int) := of_decide_eq_true (by assumption)
                obtain ⟨ad133, e133, hx133_0, hx133_1⟩ := at_T85 HR130_4.out x6_2 p133 q133
                cases e133
                replace hx133_0 := (HB.out.cell (blc9 w _ hx133_0)).trans hx133_0
                replace hx133_1 := (HB.out.cell (blc9 w _ hx133_1)).trans hx133_1
                replace p133 := eq_true p133
                replace q133 := eq_true q133
                have p134 : 0 ≤ (x6_2 : Int) := of_decide_eq_true (by assumption)
                have q134 : x6_2 < (((qj l0_2 a1).f4).length : Int) := of_decide_eq_true (by assumption)
                obtain ⟨ad134, e134, hx134_0, hx134_1⟩ := at_T85 HR130_4.out x6_2 p134 q134
                obtain rfl : ad133 = ad134 := (by injection e134)
                replace hx134_0 := (HB.out.cell (blc9 w _ hx134_0)).trans hx134_0
                replace hx134_1 := (HB.out.cell (blc9 w _ hx134_1)).trans hx134_1
                replace p134 := eq_true p134
                replace q134 := eq_true q134
                have p135 : 0 ≤ (x6_2 : Int) := of_decide_eq_true (by assumption)
                have q135 : x6_2 < (((qj l0_2 a1).f4).length : Int) := of_decide_eq_true (by assumption)
                obtain ⟨ad135, e135, hx135_0, hx135_1⟩ := at_T85 HR130_4.out x6_2 p135 q135
                obtain rfl : ad133 = ad135 := (by injection e135)
                replace hx135_0 := (HB.out.cell (blc9 w _ hx135_0)).trans hx135_0
                replace hx135_1 := (HB.out.cell (blc9 w _ hx135_1)).trans hx135_1
                replace p135 := eq_true p135
                replace q135 := eq_true q135
                have p136 : 0 ≤ ((ji54) : Int) := of_decide_eq_true (by assumption)
                have q136 : (ji54) < (((qj l0_2 a1).f4).length : Int) := of_decide_eq_true (by assumption)
                obtain ⟨ad136, e136, hx136_0, hx136_1⟩ := at_T85 HR130_4.out (ji54) p136 q136
                obtain rfl : ad133 = ad136 := (by injection e136)
                replace hx136_0 := (HB.out.cell (blc9 w _ hx136_0)).trans hx136_0
                replace hx136_1 := (HB.out.cell (blc9 w _ hx136_1)).trans hx136_1
                replace p136 := eq_true p136
                replace q136 := eq_true q136
                go_wp2
                repeat (go_quiet (fail); try go_wp2)
                go_ret
                exact ⟨by first | rfl | (simp [ql, qm] <;> rfl) | (simp only [← hji54]; first | rfl | (simp [ql, qm] <;> rfl)) | (simp [*, ql, qm] <;> rfl), by repeat (first | (with_reducible first | exact HB.out | apply qe | apply qc | apply qd | refine qh ?_ GE129.out | refine qh ?_ GE131.out) | exact HB.out)⟩
               ·rw [if_neg c57] at H
                have c57b0 : decide (((qH ((qj l0_2 a1).f4) x6_2).f0) ≤ ((qH ((qj l0_2 a1).f4) (ji54)).f0)) = false := decide_eq_false c57
                clear c57
                have H' := Aside0.mk H
                clear H
                have hnb60 := NB131_129.out
                have hnc60 := NB129_131.out
                have hcz61_0 : wr.cell? ⟨gb131, 0, none⟩ = some (.int .i64 ((qj l0_2 a1).f0)) := (qb BK131.out 0).trans rfl
                have hcz61_1 : wr.cell? ⟨gb131, 1, none⟩ = some (.int .u32 ((qj l0_2 a1).f1)) := (qb BK131.out 1).trans rfl
                have hcz61_2 : wr.cell? ⟨gb131, 2, none⟩ = some (.int .i64 ((qj l0_2 a1).f2)) := (qb BK131.out 2).trans rfl
                have hcz61_3 : wr.cell? ⟨gb131, 3, none⟩ = some (.int .i64 ((qj l0_2 a1).f3)) := (qb BK131.out 3).trans rfl
                have hcz61_4 : wr.cell? ⟨gb131, 4, none⟩ = some (.slice A130_4 ((qj l0_2 a1).f4).length c130_4) := (qb BK131.out 4).trans rfl
                have hfz61_0 := qa BK131.out 0
                have hfz61_1 := qa BK131.out 1
                have hfz61_2 := qa BK131.out 2
                have hfz61_3 := qa BK131.out 3
                have hfz61_4 := qa BK131.out 4
                have p133 : 0 ≤ (x6_2 : Int) := of_decide_eq_true (by assumption)
                have q133 : x6_2 < (((qj l0_2 a1).f4).length : Int) := of_decide_eq_true (by assumption)
                obtain ⟨ad133, e133, hx133_0, hx133_1⟩ := at_T85 HR130_4.out x6_2 p133 q133
                cases e133
                replace hx133_0 := (HB.out.cell (blc9 w _ hx133_0)).trans hx133_0
                replace hx133_1 := (HB.out.cell (blc9 w _ hx133_1)).trans hx133_1
                replace p133 := eq_true p133
                replace q133 := eq_true q133
                have p134 : 0 ≤ (x6_2 : Int) := of_decide_eq_true (by assumption)
                have q134 : x6_2 < (((qj l0_2 a1).f4).length : Int) := of_decide_eq_true (by assumption)
                obtain ⟨ad134, e134, hx134_0, hx134_1⟩ := at_T85 HR130_4.out x6_2 p134 q134
                obtain rfl : ad133 = ad134 := (by injection e134)
                replace hx134_0 := (HB.out.cell (blc9 w _ hx134_0)).trans hx134_0
                replace hx134_1 := (HB.out.cell (blc9 w _ hx134_1)).trans hx134_1
                replace p134 := eq_true p134
                replace q134 := eq_true q134
                have p135 : 0 ≤ (x6_2 : Int) := of_decide_eq_true (by assumption)
                have q135 : x6_2 < (((qj l0_2 a1).f4).length : Int) := of_decide_eq_true (by assumption)
                obtain ⟨ad135, e135, hx135_0, hx135_1⟩ := at_T85 HR130_4.out x6_2 p135 q135
                obtain rfl : ad133 = ad135 := (by injection e135)
                replace hx135_0 := (HB.out.cell (blc9 w _ hx135_0)).trans hx135_0
                replace hx135_1 := (HB.out.cell (blc9 w _ hx135_1)).trans hx135_1
                replace p135 := eq_true p135
                replace q135 := eq_true q135
                have p136 : 0 ≤ ((ji54) : Int) := of_decide_eq_true (by assumption)
                have q136 : (ji54) < (((qj l0_2 a1).f4).length : Int) := of_decide_eq_true (by assumption)
                obtain ⟨ad136, e136, hx136_0, hx136_1⟩ := at_T85 HR130_4.out (ji54) p136 q136
                obtain rfl : ad133 = ad136 := (by injection e136)
                replace hx136_0 := (HB.out.cell (blc9 w _ hx136_0)).trans hx136_0
                replace hx136_1 := (HB.out.cell (blc9 w _ hx136_1)).trans hx136_1
                replace p136 := eq_true p136
                replace q136 := eq_true q136
                go_wp2
                repeat (go_quiet (fail); try go_wp2)
                go_roundg k2
                case measure => have := HJ4.out; have := HK2.out; omega
                case rel => exact ⟨(wrap64 (x6_2 + 1)), (by first | rfl | (simp; done) | (simp [*]; done)), H', ⟨by have := HJ4.out; have := HK2.out; omega⟩, ⟨by (with_reducible repeat (first | refine qg ?_ _ | refine qi ?_ | refine qf ?_ _)); exact BK129.out⟩, ⟨by (with_reducible repeat (first | refine qg ?_ _ | refine qi ?_ | refine qf ?_ _)); exact BK131.out⟩, ⟨by repeat (first | (with_reducible first | exact HB.out | apply qe | apply qc | apply qd | refine qh ?_ GE129.out | refine qh ?_ GE131.out) | exact HB.out)⟩⟩
              ·rw [if_neg c56] at H
               exact absurd H (by simp)
             ·rw [if_neg c55] at H
              exact absurd H (by simp)
            ·rw [if_neg c53] at H
             have c53b0 : decide (0 < x6_2) = false := decide_eq_false c53
             clear c53
             have H' := Aside0.mk H
             clear H
             have hnb62 := NB131_129.out
             have hnc62 := NB129_131.out
             have hcz63_0 : wr.cell? ⟨gb131, 0, none⟩ = some (.int .i64 ((qj l0_2 a1).f0)) := (qb BK131.out 0).trans rfl
             have hcz63_1 : wr.cell? ⟨gb131, 1, none⟩ = some (.int .u32 ((qj l0_2 a1).f1)) := (qb BK131.out 1).trans rfl
             have hcz63_2 : wr.cell? ⟨gb131, 2, none⟩ = some (.int .i64 ((qj l0_2 a1).f2)) := (qb BK131.out 2).trans rfl
             have hcz63_3 : wr.cell? ⟨gb131, 3, none⟩ = some (.int .i64 ((qj l0_2 a1).f3)) := (qb BK131.out 3).trans rfl
             have hcz63_4 : wr.cell? ⟨gb131, 4, none⟩ = some (.slice A130_4 ((qj l0_2 a1).f4).length c130_4) := (qb BK131.out 4).trans rfl
             have hfz63_0 := qa BK131.out 0
             have hfz63_1 := qa BK131.out 1
             have hfz63_2 := qa BK131.out 2
             have hfz63_3 := qa BK131.out 3
             have hfz63_4 := qa BK131.out 4
             have p133 : 0 ≤ (x6_2 : Int) := of_decide_eq_true (by assumption)
             have q133 : x6_2 < (((qj l0_2 a1).f4).length : Int) := of_decide_eq_true (by assumption)
             obtain ⟨ad133, e133, hx133_0, hx133_1⟩ := at_T85 HR130_4.out x6_2 p133 q133
             cases e133
             replace hx133_0 := (HB.out.cell (blc9 w _ hx133_0)).trans hx133_0
             replace hx133_1 := (HB.out.cell (blc9 w _ hx133_1)).trans hx133_1
             replace p133 := eq_true p133
             replace q133 := eq_true q133
             have p134 : 0 ≤ (x6_2 : Int) := of_decide_eq_true (by assumption)
             have q134 : x6_2 < (((qj l0_2 a1).f4).length : Int) := of_decide_eq_true (by assumption)
             obtain ⟨ad134, e134, hx134_0, hx134_1⟩ := at_T85 HR130_4.out x6_2 p134 q134
             obtain rfl : ad133 = ad134 := (by injection e134)
             replace hx134_0 := (HB.out.cell (blc9 w _ hx134_0)).trans hx134_0
             replace hx134_1 := (HB.out.cell (blc9 w _ hx134_1)).trans hx134_1
             replace p134 := eq_true p134
             replace q134 := eq_true q134
             go_wp2
             repeat (go_quiet (fail); try go_wp2)
             go_roundg k2
             case measure => have := HJ4.out; have := HK2.out; omega
             case rel => exact ⟨(wrap64 (x6_2 + 1)), (by first | rfl | (simp; done) | (simp [*]; done)), H', ⟨by have := HJ4.out; have := HK2.out; omega⟩, ⟨by (with_reducible repeat (first | refine qg ?_ _ | refine qi ?_ | refine qf ?_ _)); exact BK129.out⟩, ⟨by (with_reducible repeat (first | refine qg ?_ _ | refine qi ?_ | refine qf ?_ _)); exact BK131.out⟩, ⟨by repeat (first | (with_reducible first | exact HB.out | apply qe | apply qc | apply qd | refine qh ?_ GE129.out | refine qh ?_ GE131.out) | exact HB.out)⟩⟩
         ·rw [if_neg c46] at H
          exact absurd H (by simp)
        ·rw [if_neg c45] at H
         have c45b0 : decide (x6_2 < (((qj l0_2 a1).f4).length : Int)) = false := decide_eq_false c45
         clear c45
         obtain rfl := Option.some.inj H
         have hnb64 := NB131_129.out
         have hnc64 := NB129_131.out
         have hcz65_0 : wr.cell? ⟨gb131, 0, none⟩ = some (.int .i64 ((qj l0_2 a1).f0)) := (qb BK131.out 0).trans rfl
         have hcz65_1 : wr.cell? ⟨gb131, 1, none⟩ = some (.int .u32 ((qj l0_2 a1).f1)) := (qb BK131.out 1).trans rfl
         have hcz65_2 : wr.cell? ⟨gb131, 2, none⟩ = some (.int .i64 ((qj l0_2 a1).f2)) := (qb BK131.out 2).trans rfl
         have hcz65_3 : wr.cell? ⟨gb131, 3, none⟩ = some (.int .i64 ((qj l0_2 a1).f3)) := (qb BK131.out 3).trans rfl
         have hcz65_4 : wr.cell? ⟨gb131, 4, none⟩ = some (.slice A130_4 ((qj l0_2 a1).f4).length c130_4) := (qb BK131.out 4).trans rfl
         have hfz65_0 := qa BK131.out 0
         have hfz65_1 := qa BK131.out 1
         have hfz65_2 := qa BK131.out 2
         have hfz65_3 := qa BK131.out 3
         have hfz65_4 := qa BK131.out 4
         go_wp2
         repeat (go_quiet (fail); try go_wp2)
         go_ret
         exact ⟨by first | rfl | (simp [ql, qm] <;> rfl) | (simp [*, ql, qm] <;> rfl), by repeat (first | (with_reducible first | exact HB.out | apply qe | apply qc | apply qd | refine qh ?_ GE129.out | refine qh ?_ GE131.out) | exact HB.out)⟩
  ·rw [if_neg c4] at H
   exact absurd H (by simp)
 ·rw [if_neg c3] at H
  exact absurd H (by simp)

end Go.Proofs.Ythjgakoofmmloaa.PNumberDoes
