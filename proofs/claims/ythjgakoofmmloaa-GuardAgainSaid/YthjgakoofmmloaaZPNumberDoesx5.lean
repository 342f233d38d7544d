/- Proved: contracts of single functions, and words for them, as the kit's print has printed them; names shortened. Conditions: those that each theorem names. -/
import Derived.Test.YthjgakoofmmloaaZPNumberDoesx0
import Derived.Test.YthjgakoofmmloaaZPNumberDoesx3
import Derived.Test.YthjgakoofmmloaaZPNumberDoesx4
namespace Go.Proofs.Ythjgakoofmmloaa.PNumberDoes
open Go.RowKit Go.Proofs.YthjgakoofmmloaaW.PrintWords Go.Proofs.YthjgakoofmmloaaW.PrintLast Go.Proofs.YthjgakoofmmloaaW.PrintMore
attribute [local go_sem] max2_int min2_int max_two min_two qQ qR max_four min_four
set_option linter.unusedVariables false
set_option linter.unusedSimpArgs false

def mimesisref23_op.j0 : Nat → Int → Int → Bool → List Int → List (S62) → List (S65) → Int → Int → Int → Int → Int → Int → Int → Option (Bool)
 | 0, _, _, _, _, _, _, _, _, _, _, _, _, _ => none
 | k + 1, x1, x6, x7, x113000, x113001, x113002, x113003, x115000, x115001, x115002, x115003, x115004, x115005 => if x115000 = 1 then (if x6 ≥ 1 then (if x6 ≤ 31 then (if x7 = true then (if x115001 = 0 then (some (x115002 == 0)) else (some false)) else (some false)) else (some false)) else (some false)) else (if x115000 = 2 then (if x7 = true then (if x115001 = 0 then (some (x115002 == 0)) else (some false)) else (some false)) else (if x115000 = 3 then ((mimesisref23_Reckons.f x6).bind fun t115 => (if t115 = true then (if x7 = true then ((mimesisref23_Value.f x113000 x113001 x113002 x113003 x115001 x1).bind fun t116 => (if t116 = true then ((mimesisref23_Value.f x113000 x113001 x113002 x113003 x115002 x1).bind fun t117 => (some t117)) else (some false))) else (some false)) else (some false))) else (if x115000 = 4 then ((mimesisref02_Loads.f k x6).bind fun t118 => (if t118 > 0 then (if x115005 = 0 then (if x115002 = 0 then ((mimesisref23_Value.f x113000 x113001 x113002 x113003 x115001 x1).bind fun t119 => (if t119 = true then ((mimesisref23_exit.f k x113000 x113001 x113002 x113003 x115004 x1).bind fun t120 => (some t120)) else (some false))) else (some false)) else (some false)) else (some false))) else (if x115000 = 5 then ((mimesisref02_Stores.f x6).bind fun t121 => (if t121 > 0 then ((mimesisref23_Value.f x113000 x113001 x113002 x113003 x115001 x1).bind fun t122 => (if t122 = true then ((mimesisref23_Value.f x113000 x113001 x113002 x113003 x115002 x1).bind fun t123 => (if t123 = true then ((mimesisref23_exit.f k x113000 x113001 x113002 x113003 x115004 x1).bind fun t124 => (if t124 = true then ((mimesisref23_exit.f k x113000 x113001 x113002 x113003 x115005 x1).bind fun t125 => (some t125)) else (some false))) else (some false))) else (some false))) else (some false))) else (if x115000 = 6 then (if x6 ≥ 5 then (if x6 ≤ 10 then (if x115005 = 0 then ((mimesisref23_Value.f x113000 x113001 x113002 x113003 x115001 x1).bind fun t126 => (if t126 = true then ((mimesisref23_Value.f x113000 x113001 x113002 x113003 x115002 x1).bind fun t127 => (if t127 = true then ((mimesisref23_exit.f k x113000 x113001 x113002 x113003 x115004 x1).bind fun t128 => (some t128)) else (some false))) else (some false))) else (some false)) else (some false)) else (some false)) else (some false))))))
def mimesisref23_op.f (k : Nat) (l0_0 : List Int) (l0_1 : List (S62)) (l0_2 : List (S65)) (a0_3 : Int) (a1 : Int) : Option (Bool) := if 0 ≤ a1 then (if a1 < (l0_1.length : Int) then (if ((qk l0_1 a1).f4) = 0 then (mimesisref23_op.j0 k a1 (wrap64 ((qk l0_1 a1).f3)) (((qk l0_1 a1).f5) == 0) l0_0 l0_1 l0_2 a0_3 ((qk l0_1 a1).f0) ((qk l0_1 a1).f1) ((qk l0_1 a1).f2) ((qk l0_1 a1).f3) ((qk l0_1 a1).f4) ((qk l0_1 a1).f5)) else (mimesisref23_op.j0 k a1 (wrap64 ((qk l0_1 a1).f3)) false l0_0 l0_1 l0_2 a0_3 ((qk l0_1 a1).f0) ((qk l0_1 a1).f1) ((qk l0_1 a1).f2) ((qk l0_1 a1).f3) ((qk l0_1 a1).f4) ((qk l0_1 a1).f5))) else (none)) else (none)
set_option maxHeartbeats 8000000 in
set_option maxRecDepth 100000 in
theorem mimesisref23_op.calls (k : Nat) (A0_0 : Option Addr) (c0_0 : Nat) (l0_0 : List Int) (A0_1 : Option Addr) (c0_1 : Nat) (l0_1 : List (S62)) (A0_2 : Option Addr) (c0_2 : Nat) (l0_2 : List (S65)) (a0_3 : Int) (a1 : Int) (r : Bool) (w : World) (hr0_0 : Kd.C (Kd.int .u32) w A0_0 l0_0.length l0_0) (hc0_0 : l0_0.length ≤ c0_0) (hr0_1 : Kd.C k62 w A0_1 l0_1.length l0_1) (hc0_1 : l0_1.length ≤ c0_1) (hr0_2 : Kd.C k65 w A0_2 l0_2.length l0_2) (hc0_2 : l0_2.length ≤ c0_2) (h : mimesisref23_op.f k l0_0 l0_1 l0_2 a0_3 a1 = some r) :
  Calls Try.prog 47 #[.agg #[.slice A0_0 l0_0.length c0_0, .slice A0_1 l0_1.length c0_1, .slice A0_2 l0_2.length c0_2, .int .i64 a0_3], .int .i64 a1] w fun e w' => e = .returned (.bool r) ∧ Below w.heap.size w w' := by
 have hu26 := Try.underlying26
 have hu62 := Try.underlying62
 have HR0_0 := Aside0.mk hr0_0
 have HC0_0 := Aside0.mk hc0_0
 clear hr0_0 hc0_0
 have HR0_1 := Aside0.mk hr0_1
 have HC0_1 := Aside0.mk hc0_1
 clear hr0_1 hc0_1
 have HR0_2 := Aside0.mk hr0_2
 have HC0_2 := Aside0.mk hc0_2
 clear hr0_2 hc0_2
 have HB := Aside0.mk (Below.refl w.heap.size w)
 have H : (if 0 ≤ a1 then (if a1 < (l0_1.length : Int) then (if ((qk l0_1 a1).f4) = 0 then (mimesisref23_op.j0 k a1 (wrap64 ((qk l0_1 a1).f3)) (((qk l0_1 a1).f5) == 0) l0_0 l0_1 l0_2 a0_3 ((qk l0_1 a1).f0) ((qk l0_1 a1).f1) ((qk l0_1 a1).f2) ((qk l0_1 a1).f3) ((qk l0_1 a1).f4) ((qk l0_1 a1).f5)) else (mimesisref23_op.j0 k a1 (wrap64 ((qk l0_1 a1).f3)) false l0_0 l0_1 l0_2 a0_3 ((qk l0_1 a1).f0) ((qk l0_1 a1).f1) ((qk l0_1 a1).f2) ((qk l0_1 a1).f3) ((qk l0_1 a1).f4) ((qk l0_1 a1).f5))) else (none)) else (none)) = some r := h
 clear h
 by_cases c3 : 0 ≤ a1
 ·rw [if_pos c3] at H
  have c3b0 : decide (0 ≤ a1) = true := decide_eq_true c3
  clear c3
  by_cases c4 : a1 < (l0_1.length : Int)
  ·rw [if_pos c4] at H
   have c4b0 : decide (a1 < (l0_1.length : Int)) = true := decide_eq_true c4
   clear c4
   have HC5 := Aside0.mk H
   clear H
   go_enter Try.func47, Try.ntmps47
   go_upto_region 3 with (first | ((with_reducible refine qB (N := 2) rfl ?_); refine qA ?hg (N := 2) ?hd (cs := #[.slice A0_0 l0_0.length c0_0, .slice A0_1 l0_1.length c0_1, .slice A0_2 l0_2.length c0_2, .int .i64 a0_3]) (t := 26) ?hr ?_; (case hd => rfl); (case hg => rfl); (case hr => first | (go_simp; done) | (go_simp; rfl)); intro gb112 hg w6 hbox hb; have n0_ := Aside0.mk (qq (by repeat (first | (with_reducible first | exact HB.out | apply qe | apply qc | apply qd) | exact HB.out)) hb); have n1_ := Aside0.mk (hbox); have n2_ := Aside0.mk ((by rw [hg]; exact (qr (by repeat (first | (with_reducible first | exact HB.out | apply qe | apply qc | apply qd) | exact HB.out))) : w.heap.size ≤ gb112)); have n3_ := Aside0.mk ((by rw [hg]; exact (qr (by repeat (first | (with_reducible first | exact HB.out | apply qe | apply qc | apply qd) | exact HB.out))) : w.heap.size ≤ gb112)); clear HB; have HB := n0_; have BK112 := n1_; have GW112 := n2_; have GE112 := n3_; clear n0_ n1_ n2_ n3_; clear hb hbox hg; have hcz7_0 : w6.cell? ⟨gb112, 0, none⟩ = some (.slice A0_0 l0_0.length c0_0) := (qb BK112.out 0).trans rfl; have hcz7_1 : w6.cell? ⟨gb112, 1, none⟩ = some (.slice A0_1 l0_1.length c0_1) := (qb BK112.out 1).trans rfl; have hcz7_2 : w6.cell? ⟨gb112, 2, none⟩ = some (.slice A0_2 l0_2.length c0_2) := (qb BK112.out 2).trans rfl; have hcz7_3 : w6.cell? ⟨gb112, 3, none⟩ = some (.int .i64 a0_3) := (qb BK112.out 3).trans rfl; have hfz7_0 := qa BK112.out 0; have hfz7_1 := qa BK112.out 1; have hfz7_2 := qa BK112.out 2; have hfz7_3 := qa BK112.out 3; have p113 : 0 ≤ (a1 : Int) := of_decide_eq_true (by assumption); have q113 : a1 < (l0_1.length : Int) := of_decide_eq_true (by assumption); obtain ⟨ad113, e113, hx113_0, hx113_1, hx113_2, hx113_3, hx113_4, hx113_5⟩ := at_T62 HR0_1.out a1 p113 q113; cases e113; replace hx113_0 := (HB.out.cell (blc9 w _ hx113_0)).trans hx113_0; replace hx113_1 := (HB.out.cell (blc9 w _ hx113_1)).trans hx113_1; replace hx113_2 := (HB.out.cell (blc9 w _ hx113_2)).trans hx113_2; replace hx113_3 := (HB.out.cell (blc9 w _ hx113_3)).trans hx113_3; replace hx113_4 := (HB.out.cell (blc9 w _ hx113_4)).trans hx113_4; replace hx113_5 := (HB.out.cell (blc9 w _ hx113_5)).trans hx113_5; replace p113 := eq_true p113; replace q113 := eq_true q113) | ((with_reducible refine qB (N := 5) rfl ?_); refine qA ?hg (N := 5) ?hd (cs := #[.int .i64 0, .int .i64 0, .int .i64 0, .int .u32 0, .int .i64 0, .int .i64 0]) (t := 62) ?hr ?_; (case hd => rfl); (case hg => rfl); (case hr => first | (go_simp; done) | (go_simp; rfl)); intro gb114 hg w8 hbox hb; have n0_ := Aside0.mk (qo (g := gb112) (o := .cells #[.slice A0_0 l0_0.length c0_0, .slice (some ad113) l0_1.length c0_1, .slice A0_2 l0_2.length c0_2, .int .i64 a0_3] 26 (0, 0)) (by (with_reducible repeat (first | refine qg ?_ _ | refine qi ?_ | refine qf ?_ _)); exact BK112.out) hb); have n1_ := Aside0.mk (qq (by repeat (first | (with_reducible first | exact HB.out | apply qe | apply qc | apply qd | refine qh ?_ GE112.out) | exact HB.out)) hb); have n2_ := Aside0.mk (hbox); have n3_ := Aside0.mk ((by rw [hg]; exact (qr (by repeat (first | (with_reducible first | exact HB.out | apply qe | apply qc | apply qd | refine qh ?_ GE112.out) | exact HB.out))) : w.heap.size ≤ gb114)); have n4_ := Aside0.mk ((by rw [hg]; exact (qr (by repeat (first | (with_reducible first | exact HB.out | apply qe | apply qc | apply qd | refine qh ?_ GE112.out) | exact HB.out))) : w.heap.size ≤ gb114)); have n5_ := Aside0.mk ((by rw [hg]; exact nne9 (qG (g := gb112) (o := .cells #[.slice A0_0 l0_0.length c0_0, .slice (some ad113) l0_1.length c0_1, .slice A0_2 l0_2.length c0_2, .int .i64 a0_3] 26 (0, 0)) (by (with_reducible repeat (first | refine qg ?_ _ | refine qi ?_ | refine qf ?_ _)); exact BK112.out)) : gb112 ≠ gb114)); have n6_ := Aside0.mk ((by rw [hg]; exact Nat.ne_of_gt (qG (g := gb112) (o := .cells #[.slice A0_0 l0_0.length c0_0, .slice (some ad113) l0_1.length c0_1, .slice A0_2 l0_2.length c0_2, .int .i64 a0_3] 26 (0, 0)) (by (with_reducible repeat (first | refine qg ?_ _ | refine qi ?_ | refine qf ?_ _)); exact BK112.out)) : gb114 ≠ gb112)); clear BK112; clear HB; have BK112 := n0_; have HB := n1_; have BK114 := n2_; have GW114 := n3_; have GE114 := n4_; have NB112_114 := n5_; have NB114_112 := n6_; clear n0_ n1_ n2_ n3_ n4_ n5_ n6_; clear hb hbox hg; have hnb9 := NB114_112.out; have hnc9 := NB112_114.out; have hcz10_0 : w8.cell? ⟨gb114, 0, none⟩ = some (.int .i64 0) := (qb BK114.out 0).trans rfl; have hcz10_1 : w8.cell? ⟨gb114, 1, none⟩ = some (.int .i64 0) := (qb BK114.out 1).trans rfl; have hcz10_2 : w8.cell? ⟨gb114, 2, none⟩ = some (.int .i64 0) := (qb BK114.out 2).trans rfl; have hcz10_3 : w8.cell? ⟨gb114, 3, none⟩ = some (.int .u32 0) := (qb BK114.out 3).trans rfl; have hcz10_4 : w8.cell? ⟨gb114, 4, none⟩ = some (.int .i64 0) := (qb BK114.out 4).trans rfl; have hcz10_5 : w8.cell? ⟨gb114, 5, none⟩ = some (.int .i64 0) := (qb BK114.out 5).trans rfl; have hfz10_0 := qa BK114.out 0; have hfz10_1 := qa BK114.out 1; have hfz10_2 := qa BK114.out 2; have hfz10_3 := qa BK114.out 3; have hfz10_4 := qa BK114.out 4; have hfz10_5 := qa BK114.out 5))
   (try simp only [Act.put, List.setIfInBounds_toArray, List.set_cons_zero, List.set_cons_succ])
   go_cut [7] (fun v7 wc => ∃ (kq : Nat) (x7_4 : Bool), v7 = .bool x7_4 ∧ Aside0 (mimesisref23_op.j0 kq a1 (wrap64 ((qk l0_1 a1).f3)) x7_4 l0_0 l0_1 l0_2 a0_3 ((qk l0_1 a1).f0) ((qk l0_1 a1).f1) ((qk l0_1 a1).f2) ((qk l0_1 a1).f3) ((qk l0_1 a1).f4) ((qk l0_1 a1).f5) = some r) ∧ Aside0 (kq ≤ k) ∧ Aside0 (wc.heap[gb112]? = some (.cells #[(.slice A0_0 l0_0.length c0_0), (.slice (some ad113) l0_1.length c0_1), (.slice A0_2 l0_2.length c0_2), .int .i64 a0_3] 26 (0, 0))) ∧ Aside0 (wc.heap[gb114]? = some (.cells #[.int .i64 ((qk l0_1 a1).f0), .int .i64 ((qk l0_1 a1).f1), .int .i64 ((qk l0_1 a1).f2), .int .u32 ((qk l0_1 a1).f3), .int .i64 ((qk l0_1 a1).f4), .int .i64 ((qk l0_1 a1).f5)] 62 (0, 0))) ∧ Aside0 (Below w.heap.size w wc))
   case first =>
    have H := HC5.out
    clear HC5
    by_cases c11 : ((qk l0_1 a1).f4) = 0
    ·rw [if_pos c11] at H
     have c11b0 : (((qk l0_1 a1).f4) == 0) = true := beq_iff_eq.mpr c11
     have c11b1 : (((qk l0_1 a1).f4) != 0) = false := bne_eq_false_iff_eq.mpr c11
     clear c11
     (first | rw [c11b0] | (simp only [i64_w, i32_w]; rw [c11b0]) | skip)
     have H' := Aside0.mk H
     clear H
     have hnb12 := NB114_112.out
     have hnc12 := NB112_114.out
     have hcz13_0 : w8.cell? ⟨gb114, 0, none⟩ = some (.int .i64 0) := (qb BK114.out 0).trans rfl
     have hcz13_1 : w8.cell? ⟨gb114, 1, none⟩ = some (.int .i64 0) := (qb BK114.out 1).trans rfl
     have hcz13_2 : w8.cell? ⟨gb114, 2, none⟩ = some (.int .i64 0) := (qb BK114.out 2).trans rfl
     have hcz13_3 : w8.cell? ⟨gb114, 3, none⟩ = some (.int .u32 0) := (qb BK114.out 3).trans rfl
     have hcz13_4 : w8.cell? ⟨gb114, 4, none⟩ = some (.int .i64 0) := (qb BK114.out 4).trans rfl
     have hcz13_5 : w8.cell? ⟨gb114, 5, none⟩ = some (.int .i64 0) := (qb BK114.out 5).trans rfl
     have hfz13_0 := qa BK114.out 0
     have hfz13_1 := qa BK114.out 1
     have hfz13_2 := qa BK114.out 2
     have hfz13_3 := qa BK114.out 3
     have hfz13_4 := qa BK114.out 4
     have hfz13_5 := qa BK114.out 5
     go_wp2
     go_meet
     case rel => exact ⟨_, ((((qk l0_1 a1).f5) == 0)), (by first | rfl | (simp; done) | (simp [*]; done)), H', ⟨by first | omega | exact Nat.le_refl _⟩, ⟨by (with_reducible repeat (first | refine qg ?_ _ | refine qi ?_ | refine qf ?_ _)); refine qp ?_ NB112_114.out _; (with_reducible repeat (first | refine qg ?_ _ | refine qi ?_ | refine qf ?_ _)); refine qp ?_ NB112_114.out _; (with_reducible repeat (first | refine qg ?_ _ | refine qi ?_ | refine qf ?_ _)); refine qp ?_ NB112_114.out _; (with_reducible repeat (first | refine qg ?_ _ | refine qi ?_ | refine qf ?_ _)); refine qp ?_ NB112_114.out _; (with_reducible repeat (first | refine qg ?_ _ | refine qi ?_ | refine qf ?_ _)); refine qp ?_ NB112_114.out _; (with_reducible repeat (first | refine qg ?_ _ | refine qi ?_ | refine qf ?_ _)); refine qp ?_ NB112_114.out _; (with_reducible repeat (first | refine qg ?_ _ | refine qi ?_ | refine qf ?_ _)); exact BK112.out⟩, ⟨by (with_reducible repeat (first | refine qg ?_ _ | refine qi ?_ | refine qf ?_ _)); refine qt (cs := #[.int .i64 ((qk l0_1 a1).f0), .int .i64 ((qk l0_1 a1).f1), .int .i64 ((qk l0_1 a1).f2), .int .u32 ((qk l0_1 a1).f3), .int .i64 ((qk l0_1 a1).f4), .int .i64 0]) ?_ 5 _ rfl; (with_reducible repeat (first | refine qg ?_ _ | refine qi ?_ | refine qf ?_ _)); refine qt (cs := #[.int .i64 ((qk l0_1 a1).f0), .int .i64 ((qk l0_1 a1).f1), .int .i64 ((qk l0_1 a1).f2), .int .u32 ((qk l0_1 a1).f3), .int .i64 0, .int .i64 0]) ?_ 4 _ rfl; (with_reducible repeat (first | refine qg ?_ _ | refine qi ?_ | refine qf ?_ _)); refine qt (cs := #[.int .i64 ((qk l0_1 a1).f0), .int .i64 ((qk l0_1 a1).f1), .int .i64 ((qk l0_1 a1).f2), .int .u32 0, .int .i64 0, .int .i64 0]) ?_ 3 _ rfl; (with_reducible repeat (first | refine qg ?_ _ | refine qi ?_ | refine qf ?_ _)); refine qt (cs := #[.int .i64 ((qk l0_1 a1).f0), .int .i64 ((qk l0_1 a1).f1), .int .i64 0, .int .u32 0, .int .i64 0, .int .i64 0]) ?_ 2 _ rfl; (with_reducible repeat (first | refine qg ?_ _ | refine qi ?_ | refine qf ?_ _)); refine qt (cs := #[.int .i64 ((qk l0_1 a1).f0), .int .i64 0, .int .i64 0, .int .u32 0, .int .i64 0, .int .i64 0]) ?_ 1 _ rfl; (with_reducible repeat (first | refine qg ?_ _ | refine qi ?_ | refine qf ?_ _)); refine qt (cs := #[.int .i64 0, .int .i64 0, .int .i64 0, .int .u32 0, .int .i64 0, .int .i64 0]) ?_ 0 _ rfl; (with_reducible repeat (first | refine qg ?_ _ | refine qi ?_ | refine qf ?_ _)); exact BK114.out⟩, ⟨by repeat (first | (with_reducible first | exact HB.out | apply qe | apply qc | apply qd | refine qh ?_ GE112.out | refine qh ?_ GE114.out) | exact HB.out)⟩⟩
    ·rw [if_neg c11] at H
     have c11b0 : (((qk l0_1 a1).f4) == 0) = false := beq_eq_false_iff_ne.mpr c11
     have c11b1 : (((qk l0_1 a1).f4) != 0) = true := bne_iff_ne.mpr c11
     (first | rw [c11b0] | (simp only [i64_w, i32_w]; rw [c11b0]) | skip)
     have H' := Aside0.mk H
     clear H
     have hnb14 := NB114_112.out
     have hnc14 := NB112_114.out
     have hcz15_0 : w8.cell? ⟨gb114, 0, none⟩ = some (.int .i64 0) := (qb BK114.out 0).trans rfl
     have hcz15_1 : w8.cell? ⟨gb114, 1, none⟩ = some (.int .i64 0) := (qb BK114.out 1).trans rfl
     have hcz15_2 : w8.cell? ⟨gb114, 2, none⟩ = some (.int .i64 0) := (qb BK114.out 2).trans rfl
     have hcz15_3 : w8.cell? ⟨gb114, 3, none⟩ = some (.int .u32 0) := (qb BK114.out 3).trans rfl
     have hcz15_4 : w8.cell? ⟨gb114, 4, none⟩ = some (.int .i64 0) := (qb BK114.out 4).trans rfl
     have hcz15_5 : w8.cell? ⟨gb114, 5, none⟩ = some (.int .i64 0) := (qb BK114.out 5).trans rfl
     have hfz15_0 := qa BK114.out 0
     have hfz15_1 := qa BK114.out 1
     have hfz15_2 := qa BK114.out 2
     have hfz15_3 := qa BK114.out 3
     have hfz15_4 := qa BK114.out 4
     have hfz15_5 := qa BK114.out 5
     go_wp2
     go_meet
     case rel => exact ⟨_, (false), (by first | rfl | (simp; done) | (simp [*]; done)), H', ⟨by first | omega | exact Nat.le_refl _⟩, ⟨by (with_reducible repeat (first | refine qg ?_ _ | refine qi ?_ | refine qf ?_ _)); refine qp ?_ NB112_114.out _; (with_reducible repeat (first | refine qg ?_ _ | refine qi ?_ | refine qf ?_ _)); refine qp ?_ NB112_114.out _; (with_reducible repeat (first | refine qg ?_ _ | refine qi ?_ | refine qf ?_ _)); refine qp ?_ NB112_114.out _; (with_reducible repeat (first | refine qg ?_ _ | refine qi ?_ | refine qf ?_ _)); refine qp ?_ NB112_114.out _; (with_reducible repeat (first | refine qg ?_ _ | refine qi ?_ | refine qf ?_ _)); refine qp ?_ NB112_114.out _; (with_reducible repeat (first | refine qg ?_ _ | refine qi ?_ | refine qf ?_ _)); refine qp ?_ NB112_114.out _; (with_reducible repeat (first | refine qg ?_ _ | refine qi ?_ | refine qf ?_ _)); exact BK112.out⟩, ⟨by (with_reducible repeat (first | refine qg ?_ _ | refine qi ?_ | refine qf ?_ _)); refine qt (cs := #[.int .i64 ((qk l0_1 a1).f0), .int .i64 ((qk l0_1 a1).f1), .int .i64 ((qk l0_1 a1).f2), .int .u32 ((qk l0_1 a1).f3), .int .i64 ((qk l0_1 a1).f4), .int .i64 0]) ?_ 5 _ rfl; (with_reducible repeat (first | refine qg ?_ _ | refine qi ?_ | refine qf ?_ _)); refine qt (cs := #[.int .i64 ((qk l0_1 a1).f0), .int .i64 ((qk l0_1 a1).f1), .int .i64 ((qk l0_1 a1).f2), .int .u32 ((qk l0_1 a1).f3), .int .i64 0, .int .i64 0]) ?_ 4 _ rfl; (with_reducible repeat (first | refine qg ?_ _ | refine qi ?_ | refine qf ?_ _)); refine qt (cs := #[.int .i64 ((qk l0_1 a1).f0), .int .i64 ((qk l0_1 a1).f1), .int .i64 ((qk l0_1 a1).f2), .int .u32 0, .int .i64 0, .int .i64 0]) ?_ 3 _ rfl; (with_reducible repeat (first | refine qg ?_ _ | refine qi ?_ | refine qf ?_ _)); refine qt (cs := #[.int .i64 ((qk l0_1 a1).f0), .int .i64 ((qk l0_1 a1).f1), .int .i64 0, .int .u32 0, .int .i64 0, .int .i64 0]) ?_ 2 _ rfl; (with_reducible repeat (first | refine qg ?_ _ | refine qi ?_ | refine qf ?_ _)); refine qt (cs := #[.int .i64 ((qk l0_1 a1).f0), .int .i64 0, .int .i64 0, .int .u32 0, .int .i64 0, .int .i64 0]) ?_ 1 _ rfl; (with_reducible repeat (first | refine qg ?_ _ | refine qi ?_ | refine qf ?_ _)); refine qt (cs := #[.int .i64 0, .int .i64 0, .int .i64 0, .int .u32 0, .int .i64 0, .int .i64 0]) ?_ 0 _ rfl; (with_reducible repeat (first | refine qg ?_ _ | refine qi ?_ | refine qf ?_ _)); exact BK114.out⟩, ⟨by repeat (first | (with_reducible first | exact HB.out | apply qe | apply qc | apply qd | refine qh ?_ GE112.out | refine qh ?_ GE114.out) | exact HB.out)⟩⟩
   case rest =>
    clear HC5
    try clear c1
    try clear p1
    try clear q1
    try clear hx1
    try clear p2
    try clear c3
    try clear c3b0
    try clear c4
    try clear c4b0
    try clear p6
    try clear c9
    try clear c11
    try clear c11b0
    try clear c11b1
    try clear p11
    try clear q11
    try clear hx11
    try clear c12
    try clear c14
    try clear hcz10_0
    try clear hcz10_1
    try clear hcz10_2
    try clear hcz10_3
    try clear hcz10_4
    try clear hcz10_5
    try clear hcz13_0
    try clear hcz13_1
    try clear hcz13_2
    try clear hcz13_3
    try clear hcz13_4
    try clear hcz13_5
    try clear hcz15_0
    try clear hcz15_1
    try clear hcz15_2
    try clear hcz15_3
    try clear hcz15_4
    try clear hcz15_5
    try clear hcz7_0
    try clear hcz7_1
    try clear hcz7_2
    try clear hcz7_3
    try clear hfz10_0
    try clear hfz10_1
    try clear hfz10_2
    try clear hfz10_3
    try clear hfz10_4
    try clear hfz10_5
    try clear hfz13_0
    try clear hfz13_1
    try clear hfz13_2
    try clear hfz13_3
    try clear hfz13_4
    try clear hfz13_5
    try clear hfz15_0
    try clear hfz15_1
    try clear hfz15_2
    try clear hfz15_3
    try clear hfz15_4
    try clear hfz15_5
    try clear hfz7_0
    try clear hfz7_1
    try clear hfz7_2
    try clear hfz7_3
    try clear hx113_0
    try clear hx113_1
    try clear hx113_2
    try clear hx113_3
    try clear hx113_4
    try clear hx113_5
    try clear p113
    try clear q113
    obtain ⟨kq, x7_4, rfl, HA, HJ4, BK112, BK114, HB⟩ := hcut
    cases kq with
    | zero => exact absurd HA.out (by simp [mimesisref23_op.j0])
    | succ kj4 =>
     have H := HA.out
     clear HA
     simp only [mimesisref23_op.j0] at H
     by_cases c16 : ((qk l0_1 a1).f0) = 1
     ·rw [if_pos c16] at H
      have c16b0 : (((qk l0_1 a1).f0) == 1) = true := beq_iff_eq.mpr c16
      have c16b1 : (((qk l0_1 a1).f0) != 1) = false := bne_eq_false_iff_eq.mpr c16
      clear c16
      by_cases c17 : (wrap64 ((qk l0_1 a1).f3)) ≥ 1
      ·rw [if_pos c17] at H
       have c17b0 : decide (1 ≤ (wrap64 ((qk l0_1 a1).f3))) = true := decide_eq_true c17
       clear c17
       by_cases c18 : (wrap64 ((qk l0_1 a1).f3)) ≤ 31
       ·rw [if_pos c18] at H
        have c18b0 : decide ((wrap64 ((qk l0_1 a1).f3)) ≤ 31) = true := decide_eq_true c18
        clear c18
        by_cases c19 : x7_4 = true
        ·subst c19
         have H1 : (if ((qk l0_1 a1).f1) = 0 then (some (((qk l0_1 a1).f2) == 0)) else (some false)) = some r := by rw [if_pos rfl] at H; exact H
         clear H
         have H := H1
         clear H1
         by_cases c20 : ((qk l0_1 a1).f1) = 0
         ·rw [if_pos c20] at H
          have c20b0 : (((qk l0_1 a1).f1) == 0) = true := beq_iff_eq.mpr c20
          have c20b1 : (((qk l0_1 a1).f1) != 0) = false := bne_eq_false_iff_eq.mpr c20
          clear c20
          obtain rfl := Option.some.inj H
          have hnb21 := NB114_112.out
          have hnc21 := NB112_114.out
          have hcz22_0 : wc.cell? ⟨gb114, 0, none⟩ = some (.int .i64 ((qk l0_1 a1).f0)) := (qb BK114.out 0).trans rfl
          have hcz22_1 : wc.cell? ⟨gb114, 1, none⟩ = some (.int .i64 ((qk l0_1 a1).f1)) := (qb BK114.out 1).trans rfl
          have hcz22_2 : wc.cell? ⟨gb114, 2, none⟩ = some (.int .i64 ((qk l0_1 a1).f2)) := (qb BK114.out 2).trans rfl
          have hcz22_3 : wc.cell? ⟨gb114, 3, none⟩ = some (.int .u32 ((qk l0_1 a1).f3)) := (qb BK114.out 3).trans rfl
          have hcz22_4 : wc.cell? ⟨gb114, 4, none⟩ = some (.int .i64 ((qk l0_1 a1).f4)) := (qb BK114.out 4).trans rfl
          have hcz22_5 : wc.cell? ⟨gb114, 5, none⟩ = some (.int .i64 ((qk l0_1 a1).f5)) := (qb BK114.out 5).trans rfl
          have hfz22_0 := qa BK114.out 0
          have hfz22_1 := qa BK114.out 1
          have hfz22_2 := qa BK114.out 2
          have hfz22_3 := qa BK114.out 3
          have hfz22_4 := qa BK114.out 4
          have hfz22_5 := qa BK114.out 5
          go_wp2
          go_ret
          exact ⟨by first | rfl | (simp [ql, qm] <;> rfl) | (simp [*, ql, qm] <;> rfl), by repeat (first | (with_reducible first | exact HB.out | apply qe | apply qc | apply qd | refine qh ?_ GE112.out | refine qh ?_ GE114.out) | exact HB.out)⟩
         ·rw [if_neg c20] at H
          have c20b0 : (((qk l0_1 a1).f1) == 0) = false := beq_eq_false_iff_ne.mpr c20
          have c20b1 : (((qk l0_1 a1).f1) != 0) = true := bne_iff_ne.mpr c20
          obtain rfl := Option.some.inj H
          have hnb23 := NB114_112.out
          have hnc23 := NB112_114.out
          have hcz24_0 : wc.cell? ⟨gb114, 0, none⟩ = some (.int .i64 ((qk l0_1 a1).f0)) := (qb BK114.out 0).trans rfl
          have hcz24_1 : wc.cell? ⟨gb114, 1, none⟩ = some (.int .i64 ((qk l0_1 a1).f1)) := (qb BK114.out 1).trans rfl
          have hcz24_2 : wc.cell? ⟨gb114, 2, none⟩ = some (.int .i64 ((qk l0_1 a1).f2)) := (qb BK114.out 2).trans rfl
          have hcz24_3 : wc.cell? ⟨gb114, 3, none⟩ = some (.int .u32 ((qk l0_1 a1).f3)) := (qb BK114.out 3).trans rfl
          have hcz24_4 : wc.cell? ⟨gb114, 4, none⟩ = some (.int .i64 ((qk l0_1 a1).f4)) := (qb BK114.out 4).trans rfl
          have hcz24_5 : wc.cell? ⟨gb114, 5, none⟩ = some (.int .i64 ((qk l0_1 a1).f5)) := (qb BK114.out 5).trans rfl
          have hfz24_0 := qa BK114.out 0
          have hfz24_1 := qa BK114.out 1
          have hfz24_2 := qa BK114.out 2
          have hfz24_3 := qa BK114.out 3
          have hfz24_4 := qa BK114.out 4
          have hfz24_5 := qa BK114.out 5
          go_wp2
          go_ret
          exact ⟨by first | rfl | (simp [ql, qm] <;> rfl) | (simp [*, ql, qm] <;> rfl), by repeat (first | (with_reducible first | exact HB.out | apply qe | apply qc | apply qd | refine qh ?_ GE112.out | refine qh ?_ GE114.out) | exact HB.out)⟩
        ·replace c19 := Bool.eq_false_iff.mpr c19
         subst c19
         have H1 : (some false) = some r := by rw [if_neg (show ¬ (false = true) by decide)] at H; exact H
         clear H
         have H := H1
         clear H1
         obtain rfl := Option.some.inj H
         have hnb25 := NB114_112.out
         have hnc25 := NB112_114.out
         have hcz26_0 : wc.cell? ⟨gb114, 0, none⟩ = some (.int .i64 ((qk l0_1 a1).f0)) := (qb BK114.out 0).trans rfl
         have hcz26_1 : wc.cell? ⟨gb114, 1, none⟩ = some (.int .i64 ((qk l0_1 a1).f1)) := (qb BK114.out 1).trans rfl
         have hcz26_2 : wc.cell? ⟨gb114, 2, none⟩ = some (.int .i64 ((qk l0_1 a1).f2)) := (qb BK114.out 2).trans rfl
         have hcz26_3 : wc.cell? ⟨gb114, 3, none⟩ = some (.int .u32 ((qk l0_1 a1).f3)) := (qb BK114.out 3).trans rfl
         have hcz26_4 : wc.cell? ⟨gb114, 4, none⟩ = some (.int .i64 ((qk l0_1 a1).f4)) := (qb BK114.out 4).trans rfl
         have hcz26_5 : wc.cell? ⟨gb114, 5, none⟩ = some (.int .i64 ((qk l0_1 a1).f5)) := (qb BK114.out 5).trans rfl
         have hfz26_0 := qa BK114.out 0
         have hfz26_1 := qa BK114.out 1
         have hfz26_2 := qa BK114.out 2
         have hfz26_3 := qa BK114.out 3
         have hfz26_4 := qa BK114.out 4
         have hfz26_5 := qa BK114.out 5
         go_wp2
         go_ret
         exact ⟨by first | rfl | (simp [ql, qm] <;> rfl) | (simp [*, ql, qm] <;> rfl), by repeat (first | (with_reducible first | exact HB.out | apply qe | apply qc | apply qd | refine qh ?_ GE112.out | refine qh ?_ GE114.out) | exact HB.out)⟩
       ·rw [if_neg c18] at H
        have c18b0 : decide ((wrap64 ((qk l0_1 a1).f3)) ≤ 31) = false := decide_eq_false c18
        clear c18
        obtain rfl := Option.some.inj H
        have hnb27 := NB114_112.out
        have hnc27 := NB112_114.out
        have hcz28_0 : wc.cell? ⟨gb114, 0, none⟩ = some (.int .i64 ((qk l0_1 a1).f0)) := (qb BK114.out 0).trans rfl
        have hcz28_1 : wc.cell? ⟨gb114, 1, none⟩ = some (.int .i64 ((qk l0_1 a1).f1)) := (qb BK114.out 1).trans rfl
        have hcz28_2 : wc.cell? ⟨gb114, 2, none⟩ = some (.int .i64 ((qk l0_1 a1).f2)) := (qb BK114.out 2).trans rfl
        have hcz28_3 : wc.cell? ⟨gb114, 3, none⟩ = some (.int .u32 ((qk l0_1 a1).f3)) := (qb BK114.out 3).trans rfl
        have hcz28_4 : wc.cell? ⟨gb114, 4, none⟩ = some (.int .i64 ((qk l0_1 a1).f4)) := (qb BK114.out 4).trans rfl
        have hcz28_5 : wc.cell? ⟨gb114, 5, none⟩ = some (.int .i64 ((qk l0_1 a1).f5)) := (qb BK114.out 5).trans rfl
        have hfz28_0 := qa BK114.out 0
        have hfz28_1 := qa BK114.out 1
        have hfz28_2 := qa BK114.out 2
        have hfz28_3 := qa BK114.out 3
        have hfz28_4 := qa BK114.out 4
        have hfz28_5 := qa BK114.out 5
        go_wp2
        go_ret
        exact ⟨by first | rfl | (simp [ql, qm] <;> rfl) | (simp [*, ql, qm] <;> rfl), by repeat (first | (with_reducible first | exact HB.out | apply qe | apply qc | apply qd | refine qh ?_ GE112.out | refine qh ?_ GE114.out) | exact HB.out)⟩
      ·rw [if_neg c17] at H
       have c17b0 : decide (1 ≤ (wrap64 ((qk l0_1 a1).f3))) = false := decide_eq_false c17
       clear c17
       obtain rfl := Option.some.inj H
       have hnb29 := NB114_112.out
       have hnc29 := NB112_114.out
       have hcz30_0 : wc.cell? ⟨gb114, 0, none⟩ = some (.int .i64 ((qk l0_1 a1).f0)) := (qb BK114.out 0).trans rfl
       have hcz30_1 : wc.cell? ⟨gb114, 1, none⟩ = some (.int .i64 ((qk l0_1 a1).f1)) := (qb BK114.out 1).trans rfl
       have hcz30_2 : wc.cell? ⟨gb114, 2, none⟩ = some (.int .i64 ((qk l0_1 a1).f2)) := (qb BK114.out 2).trans rfl
       have hcz30_3 : wc.cell? ⟨gb114, 3, none⟩ = some (.int .u32 ((qk l0_1 a1).f3)) := (qb BK114.out 3).trans rfl
       have hcz30_4 : wc.cell? ⟨gb114, 4, none⟩ = some (.int .i64 ((qk l0_1 a1).f4)) := (qb BK114.out 4).trans rfl
       have hcz30_5 : wc.cell? ⟨gb114, 5, none⟩ = some (.int .i64 ((qk l0_1 a1).f5)) := (qb BK114.out 5).trans rfl
       have hfz30_0 := qa BK114.out 0
       have hfz30_1 := qa BK114.out 1
       have hfz30_2 := qa BK114.out 2
       have hfz30_3 := qa BK114.out 3
       have hfz30_4 := qa BK114.out 4
       have hfz30_5 := qa BK114.out 5
       go_wp2
       go_ret
       exact ⟨by first | rfl | (simp [ql, qm] <;> rfl) | (simp [*, ql, qm] <;> rfl), by repeat (first | (with_reducible first | exact HB.out | apply qe | apply qc | apply qd | refine qh ?_ GE112.out | refine qh ?_ GE114.out) | exact HB.out)⟩
     ·rw [if_neg c16] at H
      have c16b0 : (((qk l0_1 a1).f0) == 1) = false := beq_eq_false_iff_ne.mpr c16
      have c16b1 : (((qk l0_1 a1).f0) != 1) = true := bne_iff_ne.mpr c16
      by_cases c31 : ((qk l0_1 a1).f0) = 2
      ·rw [if_pos c31] at H
       have c31b0 : (((qk l0_1 a1).f0) == 2) = true := beq_iff_eq.mpr c31
       have c31b1 : (((qk l0_1 a1).f0) != 2) = false := bne_eq_false_iff_eq.mpr c31
       clear c31
       by_cases c32 : x7_4 = true
       ·subst c32
        have H1 : (if ((qk l0_1 a1).f1) = 0 then (some (((qk l0_1 a1).f2) == 0)) else (some false)) = some r := by rw [if_pos rfl] at H; exact H
        clear H
        have H := H1
        clear H1
        by_cases c33 : ((qk l0_1 a1).f1) = 0
        ·rw [if_pos c33] at H
         have c33b0 : (((qk l0_1 a1).f1) == 0) = true := beq_iff_eq.mpr c33
         have c33b1 : (((qk l0_1 a1).f1) != 0) = false := bne_eq_false_iff_eq.mpr c33
         clear c33
         obtain rfl := Option.some.inj H
         have hnb34 := NB114_112.out
         have hnc34 := NB112_114.out
         have hcz35_0 : wc.cell? ⟨gb114, 0, none⟩ = some (.int .i64 ((qk l0_1 a1).f0)) := (qb BK114.out 0).trans rfl
         have hcz35_1 : wc.cell? ⟨gb114, 1, none⟩ = some (.int .i64 ((qk l0_1 a1).f1)) := (qb BK114.out 1).trans rfl
         have hcz35_2 : wc.cell? ⟨gb114, 2, none⟩ = some (.int .i64 ((qk l0_1 a1).f2)) := (qb BK114.out 2).trans rfl
         have hcz35_3 : wc.cell? ⟨gb114, 3, none⟩ = some (.int .u32 ((qk l0_1 a1).f3)) := (qb BK114.out 3).trans rfl
         have hcz35_4 : wc.cell? ⟨gb114, 4, none⟩ = some (.int .i64 ((qk l0_1 a1).f4)) := (qb BK114.out 4).trans rfl
         have hcz35_5 : wc.cell? ⟨gb114, 5, none⟩ = some (.int .i64 ((qk l0_1 a1).f5)) := (qb BK114.out 5).trans rfl
         have hfz35_0 := qa BK114.out 0
         have hfz35_1 := qa BK114.out 1
         have hfz35_2 := qa BK114.out 2
         have hfz35_3 := qa BK114.out 3
         have hfz35_4 := qa BK114.out 4
         have hfz35_5 := qa BK114.out 5
         go_wp2
         go_ret
         exact ⟨by first | rfl | (simp [ql, qm] <;> rfl) | (simp [*, ql, qm] <;> rfl), by repeat (first | (with_reducible first | exact HB.out | apply qe | apply qc | apply qd | refine qh ?_ GE112.out | refine qh ?_ GE114.out) | exact HB.out)⟩
        ·rw [if_neg c33] at H
         have c33b0 : (((qk l0_1 a1).f1) == 0) = false := beq_eq_false_iff_ne.mpr c33
         have c33b1 : (((qk l0_1 a1).f1) != 0) = true := bne_iff_ne.mpr c33
         obtain rfl := Option.some.inj H
         have hnb36 := NB114_112.out
         have hnc36 := NB112_114.out
         have hcz37_0 : wc.cell? ⟨gb114, 0, none⟩ = some (.int .i64 ((qk l0_1 a1).f0)) := (qb BK114.out 0).trans rfl
         have hcz37_1 : wc.cell? ⟨gb114, 1, none⟩ = some (.int .i64 ((qk l0_1 a1).f1)) := (qb BK114.out 1).trans rfl
         have hcz37_2 : wc.cell? ⟨gb114, 2, none⟩ = some (.int .i64 ((qk l0_1 a1).f2)) := (qb BK114.out 2).trans rfl
         have hcz37_3 : wc.cell? ⟨gb114, 3, none⟩ = some (.int .u32 ((qk l0_1 a1).f3)) := (qb BK114.out 3).trans rfl
         have hcz37_4 : wc.cell? ⟨gb114, 4, none⟩ = some (.int .i64 ((qk l0_1 a1).f4)) := (qb BK114.out 4).trans rfl
         have hcz37_5 : wc.cell? ⟨gb114, 5, none⟩ = some (.int .i64 ((qk l0_1 a1).f5)) := (qb BK114.out 5).trans rfl
         have hfz37_0 := qa BK114.out 0
         have hfz37_1 := qa BK114.out 1
         have hfz37_2 := qa BK114.out 2
         have hfz37_3 := qa BK114.out 3
         have hfz37_4 := qa BK114.out 4
         have hfz37_5 := qa BK114.out 5
         go_wp2
         go_ret
         exact ⟨by first | rfl | (simp [ql, qm] <;> rfl) | (simp [*, ql, qm] <;> rfl), by repeat (first | (with_reducible first | exact HB.out | apply qe | apply qc | apply qd | refine qh ?_ GE112.out | refine qh ?_ GE114.out) | exact HB.out)⟩
       ·replace c32 := Bool.eq_false_iff.mpr c32
        subst c32
        have H1 : (some false) = some r := by rw [if_neg (show ¬ (false = true) by decide)] at H; exact H
        clear H
        have H := H1
        clear H1
        obtain rfl := Option.some.inj H
        have hnb38 := NB114_112.out
        have hnc38 := NB112_114.out
        have hcz39_0 : wc.cell? ⟨gb114, 0, none⟩ = some (.int .i64 ((qk l0_1 a1).f0)) := (qb BK114.out 0).trans rfl
        have hcz39_1 : wc.cell? ⟨gb114, 1, none⟩ = some (.int .i64 ((qk l0_1 a1).f1)) := (qb BK114.out 1).trans rfl
        have hcz39_2 : wc.cell? ⟨gb114, 2, none⟩ = some (.int .i64 ((qk l0_1 a1).f2)) := (qb BK114.out 2).trans rfl
        have hcz39_3 : wc.cell? ⟨gb114, 3, none⟩ = some (.int .u32 ((qk l0_1 a1).f3)) := (qb BK114.out 3).trans rfl
        have hcz39_4 : wc.cell? ⟨gb114, 4, none⟩ = some (.int .i64 ((qk l0_1 a1).f4)) := (qb BK114.out 4).trans rfl
        have hcz39_5 : wc.cell? ⟨gb114, 5, none⟩ = some (.int .i64 ((qk l0_1 a1).f5)) := (qb BK114.out 5).trans rfl
        have hfz39_0 := qa BK114.out 0
        have hfz39_1 := qa BK114.out 1
        have hfz39_2 := qa BK114.out 2
        have hfz39_3 := qa BK114.out 3
        have hfz39_4 := qa BK114.out 4
        have hfz39_5 := qa BK114.out 5
        go_wp2
        go_ret
        exact ⟨by first | rfl | (simp [ql, qm] <;> rfl) | (simp [*, ql, qm] <;> rfl), by repeat (first | (with_reducible first | exact HB.out | apply qe | apply qc | apply qd | refine qh ?_ GE112.out | refine qh ?_ GE114.out) | exact HB.out)⟩
      ·rw [if_neg c31] at H
       have c31b0 : (((qk l0_1 a1).f0) == 2) = false := beq_eq_false_iff_ne.mpr c31
       have c31b1 : (((qk l0_1 a1).f0) != 2) = true := bne_iff_ne.mpr c31
       by_cases c40 : ((qk l0_1 a1).f0) = 3
       ·rw [if_pos c40] at H
        have c40b0 : (((qk l0_1 a1).f0) == 3) = true := beq_iff_eq.mpr c40
        have c40b1 : (((qk l0_1 a1).f0) != 3) = false := bne_eq_false_iff_eq.mpr c40
        clear c40
        replace H := Option.bind_eq_some_iff.mp H
        obtain ⟨t115, A410, H⟩ := H
        replace H : (if t115 = true then (if x7_4 = true then ((mimesisref23_Value.f l0_0 l0_1 l0_2 a0_3 ((qk l0_1 a1).f1) a1).bind fun t116 => (if t116 = true then ((mimesisref23_Value.f l0_0 l0_1 l0_2 a0_3 ((qk l0_1 a1).f2) a1).bind fun t117 => (some t117)) else (some false))) else (some false)) else (some false)) = some r := H
        have A41 := Aside0.mk A410
        clear A410
        by_cases c42 : t115 = true
        ·subst c42
         have H1 : (if x7_4 = true then ((mimesisref23_Value.f l0_0 l0_1 l0_2 a0_3 ((qk l0_1 a1).f1) a1).bind fun t116 => (if t116 = true then ((mimesisref23_Value.f l0_0 l0_1 l0_2 a0_3 ((qk l0_1 a1).f2) a1).bind fun t117 => (some t117)) else (some false))) else (some false)) = some r := by rw [if_pos rfl] at H; exact H
         clear H
         have H := H1
         clear H1
         by_cases c43 : x7_4 = true
         ·subst c43
          have H1 : ((mimesisref23_Value.f l0_0 l0_1 l0_2 a0_3 ((qk l0_1 a1).f1) a1).bind fun t116 => (if t116 = true then ((mimesisref23_Value.f l0_0 l0_1 l0_2 a0_3 ((qk l0_1 a1).f2) a1).bind fun t117 => (some t117)) else (some false))) = some r := by rw [if_pos rfl] at H; exact H
          clear H
          have H := H1
          clear H1
          replace H := Option.bind_eq_some_iff.mp H
          obtain ⟨t116, A440, H⟩ := H
          replace H : (if t116 = true then ((mimesisref23_Value.f l0_0 l0_1 l0_2 a0_3 ((qk l0_1 a1).f2) a1).bind fun t117 => (some t117)) else (some false)) = some r := H
          have A44 := Aside0.mk A440
          clear A440
          by_cases c45 : t116 = true
          ·subst c45
           have H1 : ((mimesisref23_Value.f l0_0 l0_1 l0_2 a0_3 ((qk l0_1 a1).f2) a1).bind fun t117 => (some t117)) = some r := by rw [if_pos rfl] at H; exact H
           clear H
           have H := H1
           clear H1
           replace H := Option.bind_eq_some_iff.mp H
           obtain ⟨t117, A460, H⟩ := H
           replace H : (some t117) = some r := H
           have A46 := Aside0.mk A460
           clear A460
           obtain rfl := Option.some.inj H
           have hnb47 := NB114_112.out
           have hnc47 := NB112_114.out
           have hcz48_0 : wc.cell? ⟨gb114, 0, none⟩ = some (.int .i64 ((qk l0_1 a1).f0)) := (qb BK114.out 0).trans rfl
           have hcz48_1 : wc.cell? ⟨gb114, 1, none⟩ = some (.int .i64 ((qk l0_1 a1).f1)) := (qb BK114.out 1).trans rfl
           have hcz48_2 : wc.cell? ⟨gb114, 2, none⟩ = some (.int .i64 ((qk l0_1 a1).f2)) := (qb BK114.out 2).trans rfl
           have hcz48_3 : wc.cell? ⟨gb114, 3, none⟩ = some (.int .u32 ((qk l0_1 a1).f3)) := (qb BK114.out 3).trans rfl
           have hcz48_4 : wc.cell? ⟨gb114, 4, none⟩ = some (.int .i64 ((qk l0_1 a1).f4)) := (qb BK114.out 4).trans rfl
           have hcz48_5 : wc.cell? ⟨gb114, 5, none⟩ = some (.int .i64 ((qk l0_1 a1).f5)) := (qb BK114.out 5).trans rfl
           have hfz48_0 := qa BK114.out 0
           have hfz48_1 := qa BK114.out 1
           have hfz48_2 := qa BK114.out 2
           have hfz48_3 := qa BK114.out 3
           have hfz48_4 := qa BK114.out 4
           have hfz48_5 := qa BK114.out 5
           go_wp2_with (first | ((with_reducible refine qw (f := 85) rfl ?_); refine qN (some 63) rfl rfl Try.func85 (by kernel_rfl) rfl #[.int .i64 (wrap64 ((qk l0_1 a1).f3))] rfl (by (try simp only [List.map_toArray, List.map_cons, List.map_nil]); first | done | rfl | (simp only [List.length_drop, List.length_take]; rfl)) ?_; (with_reducible refine (mimesisref23_Reckons.calls (wrap64 ((qk l0_1 a1).f3)) true _ A41.out).mono ?_); rintro e w' ⟨rfl, ⟨nd, rfl⟩⟩; refine ⟨_, rfl, ?_⟩; have hcz49_0 : wc.cell? ⟨gb112, 0, none⟩ = some (.slice A0_0 l0_0.length c0_0) := (qb BK112.out 0).trans rfl; have hcz49_1 : wc.cell? ⟨gb112, 1, none⟩ = some (.slice (some ad113) l0_1.length c0_1) := (qb BK112.out 1).trans rfl; have hcz49_2 : wc.cell? ⟨gb112, 2, none⟩ = some (.slice A0_2 l0_2.length c0_2) := (qb BK112.out 2).trans rfl; have hcz49_3 : wc.cell? ⟨gb112, 3, none⟩ = some (.int .i64 a0_3) := (qb BK112.out 3).trans rfl; have hfz49_0 := qa BK112.out 0; have hfz49_1 := qa BK112.out 1; have hfz49_2 := qa BK112.out 2; have hfz49_3 := qa BK112.out 3) | (go_at_call 86; (with_reducible refine (mimesisref23_Value.calls _ _ l0_0 _ _ l0_1 _ _ l0_2 a0_3 ((qk l0_1 a1).f1) a1 true _ ?side1 ?side2 ?side3 ?side4 ?side5 ?side6 A44.out).mono ?_); (case side1 => repeat (first | exact (Kd.qn HR0_0.out (by repeat (first | (with_reducible first | exact HB.out | apply qe | apply qc | apply qd | refine qh ?_ GE112.out | refine qh ?_ GE114.out) | exact HB.out))) | (with_reducible refine Kd.qu ?_ _) | (with_reducible refine Kd.qv ?_ _) | (with_reducible refine Kd.qx ?_))); (case side2 => exact HC0_0.out); (case side3 => repeat (first | exact (Kd.qn HR0_1.out (by repeat (first | (with_reducible first | exact HB.out | apply qe | apply qc | apply qd | refine qh ?_ GE112.out | refine qh ?_ GE114.out) | exact HB.out))) | (with_reducible refine Kd.qu ?_ _) | (with_reducible refine Kd.qv ?_ _) | (with_reducible refine Kd.qx ?_))); (case side4 => exact HC0_1.out); (case side5 => repeat (first | exact (Kd.qn HR0_2.out (by repeat (first | (with_reducible first | exact HB.out | apply qe | apply qc | apply qd | refine qh ?_ GE112.out | refine qh ?_ GE114.out) | exact HB.out))) | (with_reducible refine Kd.qu ?_ _) | (with_reducible refine Kd.qv ?_ _) | (with_reducible refine Kd.qx ?_))); (case side6 => exact HC0_2.out); rintro e w50 ⟨rfl, hb⟩; have n0_ := Aside0.mk (qo (g := gb112) (o := .cells #[.slice A0_0 l0_0.length c0_0, .slice (some ad113) l0_1.length c0_1, .slice A0_2 l0_2.length c0_2, .int .i64 a0_3] 26 (0, 0)) (by (with_reducible repeat (first | refine qg ?_ _ | refine qi ?_ | refine qf ?_ _)); exact BK112.out) hb); have n1_ := Aside0.mk (qo (g := gb114) (o := .cells #[.int .i64 ((qk l0_1 a1).f0), .int .i64 ((qk l0_1 a1).f1), .int .i64 ((qk l0_1 a1).f2), .int .u32 ((qk l0_1 a1).f3), .int .i64 ((qk l0_1 a1).f4), .int .i64 ((qk l0_1 a1).f5)] 62 (0, 0)) (by (with_reducible repeat (first | refine qg ?_ _ | refine qi ?_ | refine qf ?_ _)); exact BK114.out) hb); have n2_ := Aside0.mk (qq (by repeat (first | (with_reducible first | exact HB.out | apply qe | apply qc | apply qd | refine qh ?_ GE112.out | refine qh ?_ GE114.out) | exact HB.out)) hb); clear BK112; clear BK114; clear HB; have BK112 := n0_; have BK114 := n1_; have HB := n2_; clear n0_ n1_ n2_; (try clear hb); (try clear hb2); (try clear hk); (try clear hi); have hcz51_0 : w50.cell? ⟨gb112, 0, none⟩ = some (.slice A0_0 l0_0.length c0_0) := (qb BK112.out 0).trans rfl; have hcz51_1 : w50.cell? ⟨gb112, 1, none⟩ = some (.slice (some ad113) l0_1.length c0_1) := (qb BK112.out 1).trans rfl; have hcz51_2 : w50.cell? ⟨gb112, 2, none⟩ = some (.slice A0_2 l0_2.length c0_2) := (qb BK112.out 2).trans rfl; have hcz51_3 : w50.cell? ⟨gb112, 3, none⟩ = some (.int .i64 a0_3) := (qb BK112.out 3).trans rfl; have hfz51_0 := qa BK112.out 0; have hfz51_1 := qa BK112.out 1; have hfz51_2 := qa BK112.out 2; have hfz51_3 := qa BK112.out 3; have hcz52_0 : w50.cell? ⟨gb114, 0, none⟩ = some (.int .i64 ((qk l0_1 a1).f0)) := (qb BK114.out 0).trans rfl; have hcz52_1 : w50.cell? ⟨gb114, 1, none⟩ = some (.int .i64 ((qk l0_1 a1).f1)) := (qb BK114.out 1).trans rfl; have hcz52_2 : w50.cell? ⟨gb114, 2, none⟩ = some (.int .i64 ((qk l0_1 a1).f2)) := (qb BK114.out 2).trans rfl; have hcz52_3 : w50.cell? ⟨gb114, 3, none⟩ = some (.int .u32 ((qk l0_1 a1).f3)) := (qb BK114.out 3).trans rfl; have hcz52_4 : w50.cell? ⟨gb114, 4, none⟩ = some (.int .i64 ((qk l0_1 a1).f4)) := (qb BK114.out 4).trans rfl; have hcz52_5 : w50.cell? ⟨gb114, 5, none⟩ = some (.int .i64 ((qk l0_1 a1).f5)) := (qb BK114.out 5).trans rfl; have hfz52_0 := qa BK114.out 0; have hfz52_1 := qa BK114.out 1; have hfz52_2 := qa BK114.out 2; have hfz52_3 := qa BK114.out 3; have hfz52_4 := qa BK114.out 4; have hfz52_5 := qa BK114.out 5) | (go_at_call 86; (with_reducible refine (mimesisref23_Value.calls _ _ l0_0 _ _ l0_1 _ _ l0_2 a0_3 ((qk l0_1 a1).f2) a1 t117 _ ?side1 ?side2 ?side3 ?side4 ?side5 ?side6 A46.out).mono ?_); (case side1 => repeat (first | exact (Kd.qn HR0_0.out HB.out) | (with_reducible refine Kd.qu ?_ _) | (with_reducible refine Kd.qv ?_ _) | (with_reducible refine Kd.qx ?_))); (case side2 => exact HC0_0.out); (case side3 => repeat (first | exact (Kd.qn HR0_1.out HB.out) | (with_reducible refine Kd.qu ?_ _) | (with_reducible refine Kd.qv ?_ _) | (with_reducible refine Kd.qx ?_))); (case side4 => exact HC0_1.out); (case side5 => repeat (first | exact (Kd.qn HR0_2.out HB.out) | (with_reducible refine Kd.qu ?_ _) | (with_reducible refine Kd.qv ?_ _) | (with_reducible refine Kd.qx ?_))); (case side6 => exact HC0_2.out); rintro e w53 ⟨rfl, hb⟩; have n0_ := Aside0.mk (qo (g := gb112) (o := .cells #[.slice A0_0 l0_0.length c0_0, .slice (some ad113) l0_1.length c0_1, .slice A0_2 l0_2.length c0_2, .int .i64 a0_3] 26 (0, 0)) (by (with_reducible repeat (first | refine qg ?_ _ | refine qi ?_ | refine qf ?_ _)); exact BK112.out) hb); have n1_ := Aside0.mk (qo (g := gb114) (o := .cells #[.int .i64 ((qk l0_1 a1).f0), .int .i64 ((qk l0_1 a1).f1), .int .i64 ((qk l0_1 a1).f2), .int .u32 ((qk l0_1 a1).f3), .int .i64 ((qk l0_1 a1).f4), .int .i64 ((qk l0_1 a1).f5)] 62 (0, 0)) (by (with_reducible repeat (first | refine qg ?_ _ | refine qi ?_ | refine qf ?_ _)); exact BK114.out) hb); have n2_ := Aside0.mk (qq (by repeat (first | (with_reducible first | exact HB.out | apply qe | apply qc | apply qd | refine qh ?_ GE112.out | refine qh ?_ GE114.out) | exact HB.out)) hb); clear BK112; clear BK114; clear HB; have BK112 := n0_; have BK114 := n1_; have HB := n2_; clear n0_ n1_ n2_; (try clear hb); (try clear hb2); (try clear hk); (try clear hi)))
           go_ret
           exact ⟨by first | rfl | (simp [ql, qm] <;> rfl) | (simp [*, ql, qm] <;> rfl), by repeat (first | (with_reducible first | exact HB.out | apply qe | apply qc | apply qd | refine qh ?_ GE112.out | refine qh ?_ GE114.out) | exact HB.out)⟩
          ·replace c45 := Bool.eq_false_iff.mpr c45
           subst c45
           have H1 : (some false) = some r := by rw [if_neg (show ¬ (false = true) by decide)] at H; exact H
           clear H
           have H := H1
           clear H1
           obtain rfl := Option.some.inj H
           have hnb54 := NB114_112.out
           have hnc54 := NB112_114.out
           have hcz55_0 : wc.cell? ⟨gb114, 0, none⟩ = some (.int .i64 ((qk l0_1 a1).f0)) := (qb BK114.out 0).trans rfl
           have hcz55_1 : wc.cell? ⟨gb114, 1, none⟩ = some (.int .i64 ((qk l0_1 a1).f1)) := (qb BK114.out 1).trans rfl
           have hcz55_2 : wc.cell? ⟨gb114, 2, none⟩ = some (.int .i64 ((qk l0_1 a1).f2)) := (qb BK114.out 2).trans rfl
           have hcz55_3 : wc.cell? ⟨gb114, 3, none⟩ = some (.int .u32 ((qk l0_1 a1).f3)) := (qb BK114.out 3).trans rfl
           have hcz55_4 : wc.cell? ⟨gb114, 4, none⟩ = some (.int .i64 ((qk l0_1 a1).f4)) := (qb BK114.out 4).trans rfl
           have hcz55_5 : wc.cell? ⟨gb114, 5, none⟩ = some (.int .i64 ((qk l0_1 a1).f5)) := (qb BK114.out 5).trans rfl
           have hfz55_0 := qa BK114.out 0
           have hfz55_1 := qa BK114.out 1
           have hfz55_2 := qa BK114.out 2
           have hfz55_3 := qa BK114.out 3
           have hfz55_4 := qa BK114.out 4
           have hfz55_5 := qa BK114.out 5
           go_wp2_with (first | ((with_reducible refine qw (f := 85) rfl ?_); refine qN (some 63) rfl rfl Try.func85 (by kernel_rfl) rfl #[.int .i64 (wrap64 ((qk l0_1 a1).f3))] rfl (by (try simp only [List.map_toArray, List.map_cons, List.map_nil]); first | done | rfl | (simp only [List.length_drop, List.length_take]; rfl)) ?_; (with_reducible refine (mimesisref23_Reckons.calls (wrap64 ((qk l0_1 a1).f3)) true _ A41.out).mono ?_); rintro e w' ⟨rfl, ⟨nd, rfl⟩⟩; refine ⟨_, rfl, ?_⟩; have hcz56_0 : wc.cell? ⟨gb112, 0, none⟩ = some (.slice A0_0 l0_0.length c0_0) := (qb BK112.out 0).trans rfl; have hcz56_1 : wc.cell? ⟨gb112, 1, none⟩ = some (.slice (some ad113) l0_1.length c0_1) := (qb BK112.out 1).trans rfl; have hcz56_2 : wc.cell? ⟨gb112, 2, none⟩ = some (.slice A0_2 l0_2.length c0_2) := (qb BK112.out 2).trans rfl; have hcz56_3 : wc.cell? ⟨gb112, 3, none⟩ = some (.int .i64 a0_3) := (qb BK112.out 3).trans rfl; have hfz56_0 := qa BK112.out 0; have hfz56_1 := qa BK112.out 1; have hfz56_2 := qa BK112.out 2; have hfz56_3 := qa BK112.out 3) | (go_at_call 86; (with_reducible refine (mimesisref23_Value.calls _ _ l0_0 _ _ l0_1 _ _ l0_2 a0_3 ((qk l0_1 a1).f1) a1 false _ ?side1 ?side2 ?side3 ?side4 ?side5 ?side6 A44.out).mono ?_); (case side1 => repeat (first | exact (Kd.qn HR0_0.out (by repeat (first | (with_reducible first | exact HB.out | apply qe | apply qc | apply qd | refine qh ?_ GE112.out | refine qh ?_ GE114.out) | exact HB.out))) | (with_reducible refine Kd.qu ?_ _) | (with_reducible refine Kd.qv ?_ _) | (with_reducible refine Kd.qx ?_))); (case side2 => exact HC0_0.out); (case side3 => repeat (first | exact (Kd.qn HR0_1.out (by repeat (first | (with_reducible first | exact HB.out | apply qe | apply qc | apply qd | refine qh ?_ GE112.out | refine qh ?_ GE114.out) | exact HB.out))) | (with_reducible refine Kd.qu ?_ _) | (with_reducible refine Kd.qv ?_ _) | (with_reducible refine Kd.qx ?_))); (case side4 => exact HC0_1.out); (case side5 => repeat (first | exact (Kd.qn HR0_2.out (by repeat (first | (with_reducible first | exact HB.out | apply qe | apply qc | apply qd | refine qh ?_ GE112.out | refine qh ?_ GE114.out) | exact HB.out))) | (with_reducible refine Kd.qu ?_ _) | (with_reducible refine Kd.qv ?_ _) | (with_reducible refine Kd.qx ?_))); (case side6 => exact HC0_2.out); rintro e w57 ⟨rfl, hb⟩; have n0_ := Aside0.mk (qo (g := gb112) (o := .cells #[.slice A0_0 l0_0.length c0_0, .slice (some ad113) l0_1.length c0_1, .slice A0_2 l0_2.length c0_2, .int .i64 a0_3] 26 (0, 0)) (by (with_reducible repeat (first | refine qg ?_ _ | refine qi ?_ | refine qf ?_ _)); exact BK112.out) hb); have n1_ := Aside0.mk (qo (g := gb114) (o := .cells #[.int .i64 ((qk l0_1 a1).f0), .int .i64 ((qk l0_1 a1).f1), .int .i64 ((qk l0_1 a1).f2), .int .u32 ((qk l0_1 a1).f3), .int .i64 ((qk l0_1 a1).f4), .int .i64 ((qk l0_1 a1).f5)] 62 (0, 0)) (by (with_reducible repeat (first | refine qg ?_ _ | refine qi ?_ | refine qf ?_ _)); exact BK114.out) hb); have n2_ := Aside0.mk (qq (by repeat (first | (with_reducible first | exact HB.out | apply qe | apply qc | apply qd | refine qh ?_ GE112.out | refine qh ?_ GE114.out) | exact HB.out)) hb); clear BK112; clear BK114; clear HB; have BK112 := n0_; have BK114 := n1_; have HB := n2_; clear n0_ n1_ n2_; (try clear hb); (try clear hb2); (try clear hk); (try clear hi)))
           go_ret
           exact ⟨by first | rfl | (simp [ql, qm] <;> rfl) | (simp [*, ql, qm] <;> rfl), by repeat (first | (with_reducible first | exact HB.out | apply qe | apply qc | apply qd | refine qh ?_ GE112.out | refine qh ?_ GE114.out) | exact HB.out)⟩
         ·replace c43 := Bool.eq_false_iff.mpr c43
          subst c43
          have H1 : (some false) = some r := by rw [if_neg (show ¬ (false = true) by decide)] at H; exact H
          clear H
          have H := H1
          clear H1
          obtain rfl := Option.some.inj H
          have hnb58 := NB114_112.out
          have hnc58 := NB112_114.out
          have hcz59_0 : wc.cell? ⟨gb114, 0, none⟩ = some (.int .i64 ((qk l0_1 a1).f0)) := (qb BK114.out 0).trans rfl
          have hcz59_1 : wc.cell? ⟨gb114, 1, none⟩ = some (.int .i64 ((qk l0_1 a1).f1)) := (qb BK114.out 1).trans rfl
          have hcz59_2 : wc.cell? ⟨gb114, 2, none⟩ = some (.int .i64 ((qk l0_1 a1).f2)) := (qb BK114.out 2).trans rfl
          have hcz59_3 : wc.cell? ⟨gb114, 3, none⟩ = some (.int .u32 ((qk l0_1 a1).f3)) := (qb BK114.out 3).trans rfl
          have hcz59_4 : wc.cell? ⟨gb114, 4, none⟩ = some (.int .i64 ((qk l0_1 a1).f4)) := (qb BK114.out 4).trans rfl
          have hcz59_5 : wc.cell? ⟨gb114, 5, none⟩ = some (.int .i64 ((qk l0_1 a1).f5)) := (qb BK114.out 5).trans rfl
          have hfz59_0 := qa BK114.out 0
          have hfz59_1 := qa BK114.out 1
          have hfz59_2 := qa BK114.out 2
          have hfz59_3 := qa BK114.out 3
          have hfz59_4 := qa BK114.out 4
          have hfz59_5 := qa BK114.out 5
          go_wp2_with (first | ((with_reducible refine qw (f := 85) rfl ?_); refine qN (some 63) rfl rfl Try.func85 (by kernel_rfl) rfl #[.int .i64 (wrap64 ((qk l0_1 a1).f3))] rfl (by (try simp only [List.map_toArray, List.map_cons, List.map_nil]); first | done | rfl | (simp only [List.length_drop, List.length_take]; rfl)) ?_; (with_reducible refine (mimesisref23_Reckons.calls (wrap64 ((qk l0_1 a1).f3)) true _ A41.out).mono ?_); rintro e w' ⟨rfl, ⟨nd, rfl⟩⟩; refine ⟨_, rfl, ?_⟩))
          go_ret
          exact ⟨by first | rfl | (simp [ql, qm] <;> rfl) | (simp [*, ql, qm] <;> rfl), by repeat (first | (with_reducible first | exact HB.out | apply qe | apply qc | apply qd | refine qh ?_ GE112.out | refine qh ?_ GE114.out) | exact HB.out)⟩
        ·replace c42 := Bool.eq_false_iff.mpr c42
         subst c42
         have H1 : (some false) = some r := by rw [if_neg (show ¬ (false = true) by decide)] at H; exact H
         clear H
         have H := H1
         clear H1
         obtain rfl := Option.some.inj H
         have hnb60 := NB114_112.out
         have hnc60 := NB112_114.out
         have hcz61_0 : wc.cell? ⟨gb114, 0, none⟩ = some (.int .i64 ((qk l0_1 a1).f0)) := (qb BK114.out 0).trans rfl
         have hcz61_1 : wc.cell? ⟨gb114, 1, none⟩ = some (.int .i64 ((qk l0_1 a1).f1)) := (qb BK114.out 1).trans rfl
         have hcz61_2 : wc.cell? ⟨gb114, 2, none⟩ = some (.int .i64 ((qk l0_1 a1).f2)) := (qb BK114.out 2).trans rfl
         have hcz61_3 : wc.cell? ⟨gb114, 3, none⟩ = some (.int .u32 ((qk l0_1 a1).f3)) := (qb BK114.out 3).trans rfl
         have hcz61_4 : wc.cell? ⟨gb114, 4, none⟩ = some (.int .i64 ((qk l0_1 a1).f4)) := (qb BK114.out 4).trans rfl
         have hcz61_5 : wc.cell? ⟨gb114, 5, none⟩ = some (.int .i64 ((qk l0_1 a1).f5)) := (qb BK114.out 5).trans rfl
         have hfz61_0 := qa BK114.out 0
         have hfz61_1 := qa BK114.out 1
         have hfz61_2 := qa BK114.out 2
         have hfz61_3 := qa BK114.out 3
         have hfz61_4 := qa BK114.out 4
         have hfz61_5 := qa BK114.out 5
         go_wp2_with (first | ((with_reducible refine qw (f := 85) rfl ?_); refine qN (some 63) rfl rfl Try.func85 (by kernel_rfl) rfl #[.int .i64 (wrap64 ((qk l0_1 a1).f3))] rfl (by (try simp only [List.map_toArray, List.map_cons, List.map_nil]); first | done | rfl | (simp only [List.length_drop, List.length_take]; rfl)) ?_; (with_reducible refine (mimesisref23_Reckons.calls (wrap64 ((qk l0_1 a1).f3)) false _ A41.out).mono ?_); rintro e w' ⟨rfl, ⟨nd, rfl⟩⟩; refine ⟨_, rfl, ?_⟩))
         go_ret
         exact ⟨by first | rfl | (simp [ql, qm] <;> rfl) | (simp [*, ql, qm] <;> rfl), by repeat (first | (with_reducible first | exact HB.out | apply qe | apply qc | apply qd | refine qh ?_ GE112.out | refine qh ?_ GE114.out) | exact HB.out)⟩
       ·rw [if_neg c40] at H
        have c40b0 : (((qk l0_1 a1).f0) == 3) = false := beq_eq_false_iff_ne.mpr c40
        have c40b1 : (((qk l0_1 a1).f0) != 3) = true := bne_iff_ne.mpr c40
        by_cases c62 : ((qk l0_1 a1).f0) = 4
        ·rw [if_pos c62] at H
         have c62b0 : (((qk l0_1 a1).f0) == 4) = true := beq_iff_eq.mpr c62
         have c62b1 : (((qk l0_1 a1).f0) != 4) = false := bne_eq_false_iff_eq.mpr c62
         clear c62
         replace H := Option.bind_eq_some_iff.mp H
         obtain ⟨t118, A630, H⟩ := H
         replace H : (if t118 > 0 then (if ((qk l0_1 a1).f5) = 0 then (if ((qk l0_1 a1).f2) = 0 then ((mimesisref23_Value.f l0_0 l0_1 l0_2 a0_3 ((qk l0_1 a1).f1) a1).bind fun t119 => (if t119 = true then ((mimesisref23_exit.f kj4 l0_0 l0_1 l0_2 a0_3 ((qk l0_1 a1).f4) a1).bind fun t120 => (some t120)) else (some false))) else (some false)) else (some false)) else (some false)) = some r := H
         have A63 := Aside0.mk A630
         clear A630
         by_cases c64 : t118 > 0
         ·rw [if_pos c64] at H
          have c64b0 : decide (0 < t118) = true := decide_eq_true c64
          clear c64
          by_cases c65 : ((qk l0_1 a1).f5) = 0
          ·rw [if_pos c65] at H
           have c65b0 : (((qk l0_1 a1).f5) == 0) = true := beq_iff_eq.mpr c65
           have c65b1 : (((qk l0_1 a1).f5) != 0) = false := bne_eq_false_iff_eq.mpr c65
           clear c65
           by_cases c66 : ((qk l0_1 a1).f2) = 0
           ·rw [if_pos c66] at H
            have c66b0 : (((qk l0_1 a1).f2) == 0) = true := beq_iff_eq.mpr c66
            have c66b1 : (((qk l0_1 a1).f2) != 0) = false := bne_eq_false_iff_eq.mpr c66
            clear c66
            replace H := Option.bind_eq_some_iff.mp H
            obtain ⟨t119, A670, H⟩ := H
            replace H : (if t119 = true then ((mimesisref23_exit.f kj4 l0_0 l0_1 l0_2 a0_3 ((qk l0_1 a1).f4) a1).bind fun t120 => (some t120)) else (some false)) = some r := H
            have A67 := Aside0.mk A670
            clear A670
            by_cases c68 : t119 = true
            ·subst c68
             have H1 : ((mimesisref23_exit.f kj4 l0_0 l0_1 l0_2 a0_3 ((qk l0_1 a1).f4) a1).bind fun t120 => (some t120)) = some r := by rw [if_pos rfl] at H; exact H
             clear H
             have H := H1
             clear H1
             replace H := Option.bind_eq_some_iff.mp H
             obtain ⟨t120, A690, H⟩ := H
             replace H : (some t120) = some r := H
             have A69 := Aside0.mk A690
             clear A690
             obtain rfl := Option.some.inj H
             have hnb70 := NB114_112.out
             have hnc70 := NB112_114.out
             have hcz71_0 : wc.cell? ⟨gb114, 0, none⟩ = some (.int .i64 ((qk l0_1 a1).f0)) := (qb BK114.out 0).trans rfl
             have hcz71_1 : wc.cell? ⟨gb114, 1, none⟩ = some (.int .i64 ((qk l0_1 a1).f1)) := (qb BK114.out 1).trans rfl
             have hcz71_2 : wc.cell? ⟨gb114, 2, none⟩ = some (.int .i64 ((qk l0_1 a1).f2)) := (qb BK114.out 2).trans rfl
             have hcz71_3 : wc.cell? ⟨gb114, 3, none⟩ = some (.int .u32 ((qk l0_1 a1).f3)) := (qb BK114.out 3).trans rfl
             have hcz71_4 : wc.cell? ⟨gb114, 4, none⟩ = some (.int .i64 ((qk l0_1 a1).f4)) := (qb BK114.out 4).trans rfl
             have hcz71_5 : wc.cell? ⟨gb114, 5, none⟩ = some (.int .i64 ((qk l0_1 a1).f5)) := (qb BK114.out 5).trans rfl
             have hfz71_0 := qa BK114.out 0
             have hfz71_1 := qa BK114.out 1
             have hfz71_2 := qa BK114.out 2
             have hfz71_3 := qa BK114.out 3
             have hfz71_4 := qa BK114.out 4
             have hfz71_5 := qa BK114.out 5
             go_wp2_with (first | ((with_reducible refine qw (f := 59) rfl ?_); refine qN (some 84) rfl rfl Try.func59 (by kernel_rfl) rfl #[.int .i64 (wrap64 ((qk l0_1 a1).f3))] rfl (by (try simp only [List.map_toArray, List.map_cons, List.map_nil]); first | done | rfl | (simp only [List.length_drop, List.length_take]; rfl)) ?_; (with_reducible refine (mimesisref02_Loads.calls kj4 (wrap64 ((qk l0_1 a1).f3)) t118 _ A63.out).mono ?_); rintro e w' ⟨rfl, ⟨nd, rfl⟩⟩; refine ⟨_, rfl, ?_⟩; have hcz72_0 : wc.cell? ⟨gb112, 0, none⟩ = some (.slice A0_0 l0_0.length c0_0) := (qb BK112.out 0).trans rfl; have hcz72_1 : wc.cell? ⟨gb112, 1, none⟩ = some (.slice (some ad113) l0_1.length c0_1) := (qb BK112.out 1).trans rfl; have hcz72_2 : wc.cell? ⟨gb112, 2, none⟩ = some (.slice A0_2 l0_2.length c0_2) := (qb BK112.out 2).trans rfl; have hcz72_3 : wc.cell? ⟨gb112, 3, none⟩ = some (.int .i64 a0_3) := (qb BK112.out 3).trans rfl; have hfz72_0 := qa BK112.out 0; have hfz72_1 := qa BK112.out 1; have hfz72_2 := qa BK112.out 2; have hfz72_3 := qa BK112.out 3) | (go_at_call 86; (with_reducible refine (mimesisref23_Value.calls _ _ l0_0 _ _ l0_1 _ _ l0_2 a0_3 ((qk l0_1 a1).f1) a1 true _ ?side1 ?side2 ?side3 ?side4 ?side5 ?side6 A67.out).mono ?_); (case side1 => repeat (first | exact (Kd.qn HR0_0.out (by repeat (first | (with_reducible first | exact HB.out | apply qe | apply qc | apply qd | refine qh ?_ GE112.out | refine qh ?_ GE114.out) | exact HB.out))) | (with_reducible refine Kd.qu ?_ _) | (with_reducible refine Kd.qv ?_ _) | (with_reducible refine Kd.qx ?_))); (case side2 => exact HC0_0.out); (case side3 => repeat (first | exact (Kd.qn HR0_1.out (by repeat (first | (with_reducible first | exact HB.out | apply qe | apply qc | apply qd | refine qh ?_ GE112.out | refine qh ?_ GE114.out) | exact HB.out))) | (with_reducible refine Kd.qu ?_ _) | (with_reducible refine Kd.qv ?_ _) | (with_reducible refine Kd.qx ?_))); (case side4 => exact HC0_1.out); (case side5 => repeat (first | exact (Kd.qn HR0_2.out (by repeat (first | (with_reducible first | exact HB.out | apply qe | apply qc | apply qd | refine qh ?_ GE112.out | refine qh ?_ GE114.out) | exact HB.out))) | (with_reducible refine Kd.qu ?_ _) | (with_reducible refine Kd.qv ?_ _) | (with_reducible refine Kd.qx ?_))); (case side6 => exact HC0_2.out); rintro e w73 ⟨rfl, hb⟩; have n0_ := Aside0.mk (qo (g := gb112) (o := .cells #[.slice A0_0 l0_0.length c0_0, .slice (some ad113) l0_1.length c0_1, .slice A0_2 l0_2.length c0_2, .int .i64 a0_3] 26 (0, 0)) (by (with_reducible repeat (first | refine qg ?_ _ | refine qi ?_ | refine qf ?_ _)); exact BK112.out) hb); have n1_ := Aside0.mk (qo (g := gb114) (o := .cells #[.int .i64 ((qk l0_1 a1).f0), .int .i64 ((qk l0_1 a1).f1), .int .i64 ((qk l0_1 a1).f2), .int .u32 ((qk l0_1 a1).f3), .int .i64 ((qk l0_1 a1).f4), .int .i64 ((qk l0_1 a1).f5)] 62 (0, 0)) (by (with_reducible repeat (first | refine qg ?_ _ | refine qi ?_ | refine qf ?_ _)); exact BK114.out) hb); have n2_ := Aside0.mk (qq (by repeat (first | (with_reducible first | exact HB.out | apply qe | apply qc | apply qd | refine qh ?_ GE112.out | refine qh ?_ GE114.out) | exact HB.out)) hb); clear BK112; clear BK114; clear HB; have BK112 := n0_; have BK114 := n1_; have HB := n2_; clear n0_ n1_ n2_; (try clear hb); (try clear hb2); (try clear hk); (try clear hi); have hcz74_0 : w73.cell? ⟨gb112, 0, none⟩ = some (.slice A0_0 l0_0.length c0_0) := (qb BK112.out 0).trans rfl; have hcz74_1 : w73.cell? ⟨gb112, 1, none⟩ = some (.slice (some ad113) l0_1.length c0_1) := (qb BK112.out 1).trans rfl; have hcz74_2 : w73.cell? ⟨gb112, 2, none⟩ = some (.slice A0_2 l0_2.length c0_2) := (qb BK112.out 2).trans rfl; have hcz74_3 : w73.cell? ⟨gb112, 3, none⟩ = some (.int .i64 a0_3) := (qb BK112.out 3).trans rfl; have hfz74_0 := qa BK112.out 0; have hfz74_1 := qa BK112.out 1; have hfz74_2 := qa BK112.out 2; have hfz74_3 := qa BK112.out 3; have hcz75_0 : w73.cell? ⟨gb114, 0, none⟩ = some (.int .i64 ((qk l0_1 a1).f0)) := (qb BK114.out 0).trans rfl; have hcz75_1 : w73.cell? ⟨gb114, 1, none⟩ = some (.int .i64 ((qk l0_1 a1).f1)) := (qb BK114.out 1).trans rfl; have hcz75_2 : w73.cell? ⟨gb114, 2, none⟩ = some (.int .i64 ((qk l0_1 a1).f2)) := (qb BK114.out 2).trans rfl; have hcz75_3 : w73.cell? ⟨gb114, 3, none⟩ = some (.int .u32 ((qk l0_1 a1).f3)) := (qb BK114.out 3).trans rfl; have hcz75_4 : w73.cell? ⟨gb114, 4, none⟩ = some (.int .i64 ((qk l0_1 a1).f4)) := (qb BK114.out 4).trans rfl; have hcz75_5 : w73.cell? ⟨gb114, 5, none⟩ = some (.int .i64 ((qk l0_1 a1).f5)) := (qb BK114.out 5).trans rfl; have hfz75_0 := qa BK114.out 0; have hfz75_1 := qa BK114.out 1; have hfz75_2 := qa BK114.out 2; have hfz75_3 := qa BK114.out 3; have hfz75_4 := qa BK114.out 4; have hfz75_5 := qa BK114.out 5) | (go_at_call 49; (with_reducible refine (mimesisref23_exit.calls kj4 _ _ l0_0 _ _ l0_1 _ _ l0_2 a0_3 ((qk l0_1 a1).f4) a1 t120 _ ?side1 ?side2 ?side3 ?side4 ?side5 ?side6 A69.out).mono ?_); (case side1 => repeat (first | exact (Kd.qn HR0_0.out HB.out) | (with_reducible refine Kd.qu ?_ _) | (with_reducible refine Kd.qv ?_ _) | (with_reducible refine Kd.qx ?_))); (case side2 => exact HC0_0.out); (case side3 => repeat (first | exact (Kd.qn HR0_1.out HB.out) | (with_reducible refine Kd.qu ?_ _) | (with_reducible refine Kd.qv ?_ _) | (with_reducible refine Kd.qx ?_))); (case side4 => exact HC0_1.out); (case side5 => repeat (first | exact (Kd.qn HR0_2.out HB.out) | (with_reducible refine Kd.qu ?_ _) | (with_reducible refine Kd.qv ?_ _) | (with_reducible refine Kd.qx ?_))); (case side6 => exact HC0_2.out); rintro e w76 ⟨rfl, hb⟩; have n0_ := Aside0.mk (qo (g := gb112) (o := .cells #[.slice A0_0 l0_0.length c0_0, .slice (some ad113) l0_1.length c0_1, .slice A0_2 l0_2.length c0_2, .int .i64 a0_3] 26 (0, 0)) (by (with_reducible repeat (first | refine qg ?_ _ | refine qi ?_ | refine qf ?_ _)); exact BK112.out) hb); have n1_ := Aside0.mk (qo (g := gb114) (o := .cells #[.int .i64 ((qk l0_1 a1).f0), .int .i64 ((qk l0_1 a1).f1), .int .i64 ((qk l0_1 a1).f2), .int .u32 ((qk l0_1 a1).f3), .int .i64 ((qk l0_1 a1).f4), .int .i64 ((qk l0_1 a1).f5)] 62 (0, 0)) (by (with_reducible repeat (first | refine qg ?_ _ | refine qi ?_ | refine qf ?_ _)); exact BK114.out) hb); have n2_ := Aside0.mk (qq (by repeat (first | (with_reducible first | exact HB.out | apply qe | apply qc | apply qd | refine qh ?_ GE112.out | refine qh ?_ GE114.out) | exact HB.out)) hb); clear BK112; clear BK114; clear HB; have BK112 := n0_; have BK114 := n1_; have HB := n2_; clear n0_ n1_ n2_; (try clear hb); (try clear hb2); (try clear hk); (try clear hi)))
             go_ret
             exact ⟨by first | rfl | (simp [ql, qm] <;> rfl) | (simp [*, ql, qm] <;> rfl), by repeat (first | (with_reducible first | exact HB.out | apply qe | apply qc | apply qd | refine qh ?_ GE112.out | refine qh ?_ GE114.out) | exact HB.out)⟩
            ·replace c68 := Bool.eq_false_iff.mpr c68
             subst c68
             have H1 : (some false) = some r := by rw [if_neg (show ¬ (false = true) by decide)] at H; exact H
             clear H
             have H := H1
             clear H1
             obtain rfl := Option.some.inj H
             have hnb77 := NB114_112.out
             have hnc77 := NB112_114.out
             have hcz78_0 : wc.cell? ⟨gb114, 0, none⟩ = some (.int .i64 ((qk l0_1 a1).f0)) := (qb BK114.out 0).trans rfl
             have hcz78_1 : wc.cell? ⟨gb114, 1, none⟩ = some (.int .i64 ((qk l0_1 a1).f1)) := (qb BK114.out 1).trans rfl
             have hcz78_2 : wc.cell? ⟨gb114, 2, none⟩ = some (.int .i64 ((qk l0_1 a1).f2)) := (qb BK114.out 2).trans rfl
             have hcz78_3 : wc.cell? ⟨gb114, 3, none⟩ = some (.int .u32 ((qk l0_1 a1).f3)) := (qb BK114.out 3).trans rfl
             have hcz78_4 : wc.cell? ⟨gb114, 4, none⟩ = some (.int .i64 ((qk l0_1 a1).f4)) := (qb BK114.out 4).trans rfl
             have hcz78_5 : wc.cell? ⟨gb114, 5, none⟩ = some (.int .i64 ((qk l0_1 a1).f5)) := (qb BK114.out 5).trans rfl
             have hfz78_0 := qa BK114.out 0
             have hfz78_1 := qa BK114.out 1
             have hfz78_2 := qa BK114.out 2
             have hfz78_3 := qa BK114.out 3
             have hfz78_4 := qa BK114.out 4
             have hfz78_5 := qa BK114.out 5
             go_wp2_with (first | ((with_reducible refine qw (f := 59) rfl ?_); refine qN (some 84) rfl rfl Try.func59 (by kernel_rfl) rfl #[.int .i64 (wrap64 ((qk l0_1 a1).f3))] rfl (by (try simp only [List.map_toArray, List.map_cons, List.map_nil]); first | done | rfl | (simp only [List.length_drop, List.length_take]; rfl)) ?_; (with_reducible refine (mimesisref02_Loads.calls kj4 (wrap64 ((qk l0_1 a1).f3)) t118 _ A63.out).mono ?_); rintro e w' ⟨rfl, ⟨nd, rfl⟩⟩; refine ⟨_, rfl, ?_⟩; have hcz79_0 : wc.cell? ⟨gb112, 0, none⟩ = some (.slice A0_0 l0_0.length c0_0) := (qb BK112.out 0).trans rfl; have hcz79_1 : wc.cell? ⟨gb112, 1, none⟩ = some (.slice (some ad113) l0_1.length c0_1) := (qb BK112.out 1).trans rfl; have hcz79_2 : wc.cell? ⟨gb112, 2, none⟩ = some (.slice A0_2 l0_2.length c0_2) := (qb BK112.out 2).trans rfl; have hcz79_3 : wc.cell? ⟨gb112, 3, none⟩ = some (.int .i64 a0_3) := (qb BK112.out 3).trans rfl; have hfz79_0 := qa BK112.out 0; have hfz79_1 := qa BK112.out 1; have hfz79_2 := qa BK112.out 2; have hfz79_3 := qa BK112.out 3) | (go_at_call 86; (with_reducible refine (mimesisref23_Value.calls _ _ l0_0 _ _ l0_1 _ _ l0_2 a0_3 ((qk l0_1 a1).f1) a1 false _ ?side1 ?side2 ?side3 ?side4 ?side5 ?side6 A67.out).mono ?_); (case side1 => repeat (first | exact (Kd.qn HR0_0.out (by repeat (first | (with_reducible first | exact HB.out | apply qe | apply qc | apply qd | refine qh ?_ GE112.out | refine qh ?_ GE114.out) | exact HB.out))) | (with_reducible refine Kd.qu ?_ _) | (with_reducible refine Kd.qv ?_ _) | (with_reducible refine Kd.qx ?_))); (case side2 => exact HC0_0.out); (case side3 => repeat (first | exact (Kd.qn HR0_1.out (by repeat (first | (with_reducible first | exact HB.out | apply qe | apply qc | apply qd | refine qh ?_ GE112.out | refine qh ?_ GE114.out) | exact HB.out))) | (with_reducible refine Kd.qu ?_ _) | (with_reducible refine Kd.qv ?_ _) | (with_reducible refine Kd.qx ?_))); (case side4 => exact HC0_1.out); (case side5 => repeat (first | exact (Kd.qn HR0_2.out (by repeat (first | (with_reducible first | exact HB.out | apply qe | apply qc | apply qd | refine qh ?_ GE112.out | refine qh ?_ GE114.out) | exact HB.out))) | (with_reducible refine Kd.qu ?_ _) | (with_reducible refine Kd.qv ?_ _) | (with_reducible refine Kd.qx ?_))); (case side6 => exact HC0_2.out); rintro e w80 ⟨rfl, hb⟩; have n0_ := Aside0.mk (qo (g := gb112) (o := .cells #[.slice A0_0 l0_0.length c0_0, .slice (some ad113) l0_1.length c0_1, .slice A0_2 l0_2.length c0_2, .int .i64 a0_3] 26 (0, 0)) (by (with_reducible repeat (first | refine qg ?_ _ | refine qi ?_ | refine qf ?_ _)); exact BK112.out) hb); have n1_ := Aside0.mk (qo (g := gb114) (o := .cells #[.int .i64 ((qk l0_1 a1).f0), .int .i64 ((qk l0_1 a1).f1), .int .i64 ((qk l0_1 a1).f2), .int .u32 ((qk l0_1 a1).f3), .int .i64 ((qk l0_1 a1).f4), .int .i64 ((qk l0_1 a1).f5)] 62 (0, 0)) (by (with_reducible repeat (first | refine qg ?_ _ | refine qi ?_ | refine qf ?_ _)); exact BK114.out) hb); have n2_ := Aside0.mk (qq (by repeat (first | (with_reducible first | exact HB.out | apply qe | apply qc | apply qd | refine qh ?_ GE112.out | refine qh ?_ GE114.out) | exact HB.out)) hb); clear BK112; clear BK114; clear HB; have BK112 := n0_; have BK114 := n1_; have HB := n2_; clear n0_ n1_ n2_; (try clear hb); (try clear hb2); (try clear hk); (try clear hi)))
             go_ret
             exact ⟨by first | rfl | (simp [ql, qm] <;> rfl) | (simp [*, ql, qm] <;> rfl), by repeat (first | (with_reducible first | exact HB.out | apply qe | apply qc | apply qd | refine qh ?_ GE112.out | refine qh ?_ GE114.out) | exact HB.out)⟩
           ·rw [if_neg c66] at H
            have c66b0 : (((qk l0_1 a1).f2) == 0) = false := beq_eq_false_iff_ne.mpr c66
            have c66b1 : (((qk l0_1 a1).f2) != 0) = true := bne_iff_ne.mpr c66
            obtain rfl := Option.some.inj H
            have hnb81 := NB114_112.out
            have hnc81 := NB112_114.out
            have hcz82_0 : wc.cell? ⟨gb114, 0, none⟩ = some (.int .i64 ((qk l0_1 a1).f0)) := (qb BK114.out 0).trans rfl
            have hcz82_1 : wc.cell? ⟨gb114, 1, none⟩ = some (.int .i64 ((qk l0_1 a1).f1)) := (qb BK114.out 1).trans rfl
            have hcz82_2 : wc.cell? ⟨gb114, 2, none⟩ = some (.int .i64 ((qk l0_1 a1).f2)) := (qb BK114.out 2).trans rfl
            have hcz82_3 : wc.cell? ⟨gb114, 3, none⟩ = some (.int .u32 ((qk l0_1 a1).f3)) := (qb BK114.out 3).trans rfl
            have hcz82_4 : wc.cell? ⟨gb114, 4, none⟩ = some (.int .i64 ((qk l0_1 a1).f4)) := (qb BK114.out 4).trans rfl
            have hcz82_5 : wc.cell? ⟨gb114, 5, none⟩ = some (.int .i64 ((qk l0_1 a1).f5)) := (qb BK114.out 5).trans rfl
            have hfz82_0 := qa BK114.out 0
            have hfz82_1 := qa BK114.out 1
            have hfz82_2 := qa BK114.out 2
            have hfz82_3 := qa BK114.out 3
            have hfz82_4 := qa BK114.out 4
            have hfz82_5 := qa BK114.out 5
            go_wp2_with (first | ((with_reducible refine qw (f := 59) rfl ?_); refine qN (some 84) rfl rfl Try.func59 (by kernel_rfl) rfl #[.int .i64 (wrap64 ((qk l0_1 a1).f3))] rfl (by (try simp only [List.map_toArray, List.map_cons, List.map_nil]); first | done | rfl | (simp only [List.length_drop, List.length_take]; rfl)) ?_; (with_reducible refine (mimesisref02_Loads.calls kj4 (wrap64 ((qk l0_1 a1).f3)) t118 _ A63.out).mono ?_); rintro e w' ⟨rfl, ⟨nd, rfl⟩⟩; refine ⟨_, rfl, ?_⟩))
            go_ret
            exact ⟨by first | rfl | (simp [ql, qm] <;> rfl) | (simp [*, ql, qm] <;> rfl), by repeat (first | (with_reducible first | exact HB.out | apply qe | apply qc | apply qd | refine qh ?_ GE112.out | refine qh ?_ GE114.out) | exact HB.out)⟩
          ·rw [if_neg c65] at H
           have c65b0 : (((qk l0_1 a1).f5) == 0) = false := beq_eq_false_iff_ne.mpr c65
           have c65b1 : (((qk l0_1 a1).f5) != 0) = true := bne_iff_ne.mpr c65
           obtain rfl := Option.some.inj H
           have hnb83 := NB114_112.out
           have hnc83 := NB112_114.out
           have hcz84_0 : wc.cell? ⟨gb114, 0, none⟩ = some (.int .i64 ((qk l0_1 a1).f0)) := (qb BK114.out 0).trans rfl
           have hcz84_1 : wc.cell? ⟨gb114, 1, none⟩ = some (.int .i64 ((qk l0_1 a1).f1)) := (qb BK114.out 1).trans rfl
           have hcz84_2 : wc.cell? ⟨gb114, 2, none⟩ = some (.int .i64 ((qk l0_1 a1).f2)) := (qb BK114.out 2).trans rfl
           have hcz84_3 : wc.cell? ⟨gb114, 3, none⟩ = some (.int .u32 ((qk l0_1 a1).f3)) := (qb BK114.out 3).trans rfl
           have hcz84_4 : wc.cell? ⟨gb114, 4, none⟩ = some (.int .i64 ((qk l0_1 a1).f4)) := (qb BK114.out 4).trans rfl
           have hcz84_5 : wc.cell? ⟨gb114, 5, none⟩ = some (.int .i64 ((qk l0_1 a1).f5)) := (qb BK114.out 5).trans rfl
           have hfz84_0 := qa BK114.out 0
           have hfz84_1 := qa BK114.out 1
           have hfz84_2 := qa BK114.out 2
           have hfz84_3 := qa BK114.out 3
           have hfz84_4 := qa BK114.out 4
           have hfz84_5 := qa BK114.out 5
           go_wp2_with (first | ((with_reducible refine qw (f := 59) rfl ?_); refine qN (some 84) rfl rfl Try.func59 (by kernel_rfl) rfl #[.int .i64 (wrap64 ((qk l0_1 a1).f3))] rfl (by (try simp only [List.map_toArray, List.map_cons, List.map_nil]); first | done | rfl | (simp only [List.length_drop, List.length_take]; rfl)) ?_; (with_reducible refine (mimesisref02_Loads.calls kj4 (wrap64 ((qk l0_1 a1).f3)) t118 _ A63.out).mono ?_); rintro e w' ⟨rfl, ⟨nd, rfl⟩⟩; refine ⟨_, rfl, ?_⟩))
           go_ret
           exact ⟨by first | rfl | (simp [ql, qm] <;> rfl) | (simp [*, ql, qm] <;> rfl), by repeat (first | (with_reducible first | exact HB.out | apply qe | apply qc | apply qd | refine qh ?_ GE112.out | refine qh ?_ GE114.out) | exact HB.out)⟩
         ·rw [if_neg c64] at H
          have c64b0 : decide (0 < t118) = false := decide_eq_false c64
          clear c64
          obtain rfl := Option.some.inj H
          have hnb85 := NB114_112.out
          have hnc85 := NB112_114.out
          have hcz86_0 : wc.cell? ⟨gb114, 0, none⟩ = some (.int .i64 ((qk l0_1 a1).f0)) := (qb BK114.out 0).trans rfl
          have hcz86_1 : wc.cell? ⟨gb114, 1, none⟩ = some (.int .i64 ((qk l0_1 a1).f1)) := (qb BK114.out 1).trans rfl
          have hcz86_2 : wc.cell? ⟨gb114, 2, none⟩ = some (.int .i64 ((qk l0_1 a1).f2)) := (qb BK114.out 2).trans rfl
          have hcz86_3 : wc.cell? ⟨gb114, 3, none⟩ = some (.int .u32 ((qk l0_1 a1).f3)) := (qb BK114.out 3).trans rfl
          have hcz86_4 : wc.cell? ⟨gb114, 4, none⟩ = some (.int .i64 ((qk l0_1 a1).f4)) := (qb BK114.out 4).trans rfl
          have hcz86_5 : wc.cell? ⟨gb114, 5, none⟩ = some (.int .i64 ((qk l0_1 a1).f5)) := (qb BK114.out 5).trans rfl
          have hfz86_0 := qa BK114.out 0
          have hfz86_1 := qa BK114.out 1
          have hfz86_2 := qa BK114.out 2
          have hfz86_3 := qa BK114.out 3
          have hfz86_4 := qa BK114.out 4
          have hfz86_5 := qa BK114.out 5
          go_wp2_with (first | ((with_reducible refine qw (f := 59) rfl ?_); refine qN (some 84) rfl rfl Try.func59 (by kernel_rfl) rfl #[.int .i64 (wrap64 ((qk l0_1 a1).f3))] rfl (by (try simp only [List.map_toArray, List.map_cons, List.map_nil]); first | done | rfl | (simp only [List.length_drop, List.length_take]; rfl)) ?_; (with_reducible refine (mimesisref02_Loads.calls kj4 (wrap64 ((qk l0_1 a1).f3)) t118 _ A63.out).mono ?_); rintro e w' ⟨rfl, ⟨nd, rfl⟩⟩; refine ⟨_, rfl, ?_⟩))
          go_ret
          exact ⟨by first | rfl | (simp [ql, qm] <;> rfl) | (simp [*, ql, qm] <;> rfl), by repeat (first | (with_reducible first | exact HB.out | apply qe | apply qc | apply qd | refine qh ?_ GE112.out | refine qh ?_ GE114.out) | exact HB.out)⟩
        ·rw [if_neg c62] at H
         have c62b0 : (((qk l0_1 a1).f0) == 4) = false := beq_eq_false_iff_ne.mpr c62
         have c62b1 : (((qk l0_1 a1).f0) != 4) = true := bne_iff_ne.mpr c62
         by_cases c87 : ((qk l0_1 a1).f0) = 5
         ·rw [if_pos c87] at H
          have c87b0 : (((qk l0_1 a1).f0) == 5) = true := beq_iff_eq.mpr c87
          have c87b1 : (((qk l0_1 a1).f0) != 5) = false := bne_eq_false_iff_eq.mpr c87
          clear c87
          replace H := Option.bind_eq_some_iff.mp H
          obtain ⟨t121, A880, H⟩ := H
          replace H : (if t121 > 0 then ((mimesisref23_Value.f l0_0 l0_1 l0_2 a0_3 ((qk l0_1 a1).f1) a1).bind fun t122 => (if t122 = true then ((mimesisref23_Value.f l0_0 l0_1 l0_2 a0_3 ((qk l0_1 a1).f2) a1).bind fun t123 => (if t123 = true then ((mimesisref23_exit.f kj4 l0_0 l0_1 l0_2 a0_3 ((qk l0_1 a1).f4) a1).bind fun t124 => (if t124 = true then ((mimesisref23_exit.f kj4 l0_0 l0_1 l0_2 a0_3 ((qk l0_1 a1).f5) a1).bind fun t125 => (some t125)) else (some false))) else (some false))) else (some false))) else (some false)) = some r := H
          have A88 := Aside0.mk A880
          clear A880
          by_cases c89 : t121 > 0
          ·rw [if_pos c89] at H
           have c89b0 : decide (0 < t121) = true := decide_eq_true c89
           clear c89
           replace H := Option.bind_eq_some_iff.mp H
           obtain ⟨t122, A900, H⟩ := H
           replace H : (if t122 = true then ((mimesisref23_Value.f l0_0 l0_1 l0_2 a0_3 ((qk l0_1 a1).f2) a1).bind fun t123 => (if t123 = true then ((mimesisref23_exit.f kj4 l0_0 l0_1 l0_2 a0_3 ((qk l0_1 a1).f4) a1).bind fun t124 => (if t124 = true then ((mimesisref23_exit.f kj4 l0_0 l0_1 l0_2 a0_3 ((qk l0_1 a1).f5) a1).bind fun t125 => (some t125)) else (some false))) else (some false))) else (some false)) = some r := H
           have A90 := Aside0.mk A900
           clear A900
           by_cases c91 : t122 = true
           ·subst c91
            have H1 : ((mimesisref23_Value.f l0_0 l0_1 l0_2 a0_3 ((qk l0_1 a1).f2) a1).bind fun t123 => (if t123 = true then ((mimesisref23_exit.f kj4 l0_0 l0_1 l0_2 a0_3 ((qk l0_1 a1).f4) a1).bind fun t124 => (if t124 = true then ((mimesisref23_exit.f kj4 l0_0 l0_1 l0_2 a0_3 ((qk l0_1 a1).f5) a1).bind fun t125 => (some t125)) else (some false))) else (some false))) = some r := by rw [if_pos rfl] at H; exact H
            clear H
            have H := H1
            clear H1
            replace H := Option.bind_eq_some_iff.mp H
            obtain ⟨t123, A920, H⟩ := H
            replace H : (if t123 = true then ((mimesisref23_exit.f kj4 l0_0 l0_1 l0_2 a0_3 ((qk l0_1 a1).f4) a1).bind fun t124 => (if t124 = true then ((mimesisref23_exit.f kj4 l0_0 l0_1 l0_2 a0_3 ((qk l0_1 a1).f5) a1).bind fun t125 => (some t125)) else (some false))) else (some false)) = some r := H
            have A92 := Aside0.mk A920
            clear A920
            by_cases c93 : t123 = true
            ·subst c93
             have H1 : ((mimesisref23_exit.f kj4 l0_0 l0_1 l0_2 a0_3 ((qk l0_1 a1).f4) a1).bind fun t124 => (if t124 = true then ((mimesisref23_exit.f kj4 l0_0 l0_1 l0_2 a0_3 ((qk l0_1 a1).f5) a1).bind fun t125 => (some t125)) else (some false))) = some r := by rw [if_pos rfl] at H; exact H
             clear H
             have H := H1
             clear H1
             replace H := Option.bind_eq_some_iff.mp H
             obtain ⟨t124, A940, H⟩ := H
             replace H : (if t124 = true then ((mimesisref23_exit.f kj4 l0_0 l0_1 l0_2 a0_3 ((qk l0_1 a1).f5) a1).bind fun t125 => (some t125)) else (some false)) = some r := H
             have A94 := Aside0.mk A940
             clear A940
             by_cases c95 : t124 = true
             ·subst c95
              have H1 : ((mimesisref23_exit.f kj4 l0_0 l0_1 l0_2 a0_3 ((qk l0_1 a1).f5) a1).bind fun t125 => (some t125)) = some r := by rw [if_pos rfl] at H; exact H
              clear H
              have H := H1
              clear H1
              replace H := Option.bind_eq_some_iff.mp H
              obtain ⟨t125, A960, H⟩ := H
              replace H : (some t125) = some r := H
              have A96 := Aside0.mk A960
              clear A960
              obtain rfl := Option.some.inj H
              have hnb97 := NB114_112.out
              have hnc97 := NB112_114.out
              have hcz98_0 : wc.cell? ⟨gb114, 0, none⟩ = some (.int .i64 ((qk l0_1 a1).f0)) := (qb BK114.out 0).trans rfl
              have hcz98_1 : wc.cell? ⟨gb114, 1, none⟩ = some (.int .i64 ((qk l0_1 a1).f1)) := (qb BK114.out 1).trans rfl
              have hcz98_2 : wc.cell? ⟨gb114, 2, none⟩ = some (.int .i64 ((qk l0_1 a1).f2)) := (qb BK114.out 2).trans rfl
              have hcz98_3 : wc.cell? ⟨gb114, 3, none⟩ = some (.int .u32 ((qk l0_1 a1).f3)) := (qb BK114.out 3).trans rfl
              have hcz98_4 : wc.cell? ⟨gb114, 4, none⟩ = some (.int .i64 ((qk l0_1 a1).f4)) := (qb BK114.out 4).trans rfl
              have hcz98_5 : wc.cell? ⟨gb114, 5, none⟩ = some (.int .i64 ((qk l0_1 a1).f5)) := (qb BK114.out 5).trans rfl
              have hfz98_0 := qa BK114.out 0
              have hfz98_1 := qa BK114.out 1
              have hfz98_2 := qa BK114.out 2
              have hfz98_3 := qa BK114.out 3
              have hfz98_4 := qa BK114.out 4
              have hfz98_5 := qa BK114.out 5
              go_wp2_with (first | ((with_reducible refine qw (f := 64) rfl ?_); refine qN (some 113) rfl rfl Try.func64 (by kernel_rfl) rfl #[.int .i64 (wrap64 ((qk l0_1 a1).f3))] rfl (by (try simp only [List.map_toArray, List.map_cons, List.map_nil]); first | done | rfl | (simp only [List.length_drop, List.length_take]; rfl)) ?_; (with_reducible refine (mimesisref02_Stores.calls (wrap64 ((qk l0_1 a1).f3)) t121 _ A88.out).mono ?_); rintro e w' ⟨rfl, ⟨nd, rfl⟩⟩; refine ⟨_, rfl, ?_⟩; have hcz99_0 : wc.cell? ⟨gb112, 0, none⟩ = some (.slice A0_0 l0_0.length c0_0) := (qb BK112.out 0).trans rfl; have hcz99_1 : wc.cell? ⟨gb112, 1, none⟩ = some (.slice (some ad113) l0_1.length c0_1) := (qb BK112.out 1).trans rfl; have hcz99_2 : wc.cell? ⟨gb112, 2, none⟩ = some (.slice A0_2 l0_2.length c0_2) := (qb BK112.out 2).trans rfl; have hcz99_3 : wc.cell? ⟨gb112, 3, none⟩ = some (.int .i64 a0_3) := (qb BK112.out 3).trans rfl; have hfz99_0 := qa BK112.out 0; have hfz99_1 := qa BK112.out 1; have hfz99_2 := qa BK112.out 2; have hfz99_3 := qa BK112.out 3) | (go_at_call 86; (with_reducible refine (mimesisref23_Value.calls _ _ l0_0 _ _ l0_1 _ _ l0_2 a0_3 ((qk l0_1 a1).f1) a1 true _ ?side1 ?side2 ?side3 ?side4 ?side5 ?side6 A90.out).mono ?_); (case side1 => repeat (first | exact (Kd.qn HR0_0.out (by repeat (first | (with_reducible first | exact HB.out | apply qe | apply qc | apply qd | refine qh ?_ GE112.out | refine qh ?_ GE114.out) | exact HB.out))) | (with_reducible refine Kd.qu ?_ _) | (with_reducible refine Kd.qv ?_ _) | (with_reducible refine Kd.qx ?_))); (case side2 => exact HC0_0.out); (case side3 => repeat (first | exact (Kd.qn HR0_1.out (by repeat (first | (with_reducible first | exact HB.out | apply qe | apply qc | apply qd | refine qh ?_ GE112.out | refine qh ?_ GE114.out) | exact HB.out))) | (with_reducible refine Kd.qu ?_ _) | (with_reducible refine Kd.qv ?_ _) | (with_reducible refine Kd.qx ?_))); (case side4 => exact HC0_1.out); (case side5 => repeat (first | exact (Kd.qn HR0_2.out (by repeat (first | (with_reducible first | exact HB.out | apply qe | apply qc | apply qd | refine qh ?_ GE112.out | refine qh ?_ GE114.out) | exact HB.out))) | (with_reducible refine Kd.qu ?_ _) | (with_reducible refine Kd.qv ?_ _) | (with_reducible refine Kd.qx ?_))); (case side6 => exact HC0_2.out); rintro e w100 ⟨rfl, hb⟩; have n0_ := Aside0.mk (qo (g := gb112) (o := .cells #[.slice A0_0 l0_0.length c0_0, .slice (some ad113) l0_1.length c0_1, .slice A0_2 l0_2.length c0_2, .int .i64 a0_3] 26 (0, 0)) (by (with_reducible repeat (first | refine qg ?_ _ | refine qi ?_ | refine qf ?_ _)); exact BK112.out) hb); have n1_ := Aside0.mk (qo (g := gb114) (o := .cells #[.int .i64 ((qk l0_1 a1).f0), .int .i64 ((qk l0_1 a1).f1), .int .i64 ((qk l0_1 a1).f2), .int .u32 ((qk l0_1 a1).f3), .int .i64 ((qk l0_1 a1).f4), .int .i64 ((qk l0_1 a1).f5)] 62 (0, 0)) (by (with_reducible repeat (first | refine qg ?_ _ | refine qi ?_ | refine qf ?_ _)); exact BK114.out) hb); have n2_ := Aside0.mk (qq (by repeat (first | (with_reducible first | exact HB.out | apply qe | apply qc | apply qd | refine qh ?_ GE112.out | refine qh ?_ GE114.out) | exact HB.out)) hb); clear BK112; clear BK114; clear HB; have BK112 := n0_; have BK114 := n1_; have HB := n2_; clear n0_ n1_ n2_; (try clear hb); (try clear hb2); (try clear hk); (try clear hi); have hcz101_0 : w100.cell? ⟨gb112, 0, none⟩ = some (.slice A0_0 l0_0.length c0_0) := (qb BK112.out 0).trans rfl; have hcz101_1 : w100.cell? ⟨gb112, 1, none⟩ = some (.slice (some ad113) l0_1.length c0_1) := (qb BK112.out 1).trans rfl; have hcz101_2 : w100.cell? ⟨gb112, 2, none⟩ = some (.slice A0_2 l0_2.length c0_2) := (qb BK112.out 2).trans rfl; have hcz101_3 : w100.cell? ⟨gb112, 3, none⟩ = some (.int .i64 a0_3) := (qb BK112.out 3).trans rfl; have hfz101_0 := qa BK112.out 0; have hfz101_1 := qa BK112.out 1; have hfz101_2 := qa BK112.out 2; have hfz101_3 := qa BK112.out 3; have hcz102_0 : w100.cell? ⟨gb114, 0, none⟩ = some (.int .i64 ((qk l0_1 a1).f0)) := (qb BK114.out 0).trans rfl; have hcz102_1 : w100.cell? ⟨gb114, 1, none⟩ = some (.int .i64 ((qk l0_1 a1).f1)) := (qb BK114.out 1).trans rfl; have hcz102_2 : w100.cell? ⟨gb114, 2, none⟩ = some (.int .i64 ((qk l0_1 a1).f2)) := (qb BK114.out 2).trans rfl; have hcz102_3 : w100.cell? ⟨gb114, 3, none⟩ = some (.int .u32 ((qk l0_1 a1).f3)) := (qb BK114.out 3).trans rfl; have hcz102_4 : w100.cell? ⟨gb114, 4, none⟩ = some (.int .i64 ((qk l0_1 a1).f4)) := (qb BK114.out 4).trans rfl; have hcz102_5 : w100.cell? ⟨gb114, 5, none⟩ = some (.int .i64 ((qk l0_1 a1).f5)) := (qb BK114.out 5).trans rfl; have hfz102_0 := qa BK114.out 0; have hfz102_1 := qa BK114.out 1; have hfz102_2 := qa BK114.out 2; have hfz102_3 := qa BK114.out 3; have hfz102_4 := qa BK114.out 4; have hfz102_5 := qa BK114.out 5) | (go_at_call 86; (with_reducible refine (mimesisref23_Value.calls _ _ l0_0 _ _ l0_1 _ _ l0_2 a0_3 ((qk l0_1 a1).f2) a1 true _ ?side1 ?side2 ?side3 ?side4 ?side5 ?side6 A92.out).mono ?_); (case side1 => repeat (first | exact (Kd.qn HR0_0.out HB.out) | (with_reducible refine Kd.qu ?_ _) | (with_reducible refine Kd.qv ?_ _) | (with_reducible refine Kd.qx ?_))); (case side2 => exact HC0_0.out); (case side3 => repeat (first | exact (Kd.qn HR0_1.out HB.out) | (with_reducible refine Kd.qu ?_ _) | (with_reducible refine Kd.qv ?_ _) | (with_reducible refine Kd.qx ?_))); (case side4 => exact HC0_1.out); (case side5 => repeat (first | exact (Kd.qn HR0_2.out HB.out) | (with_reducible refine Kd.qu ?_ _) | (with_reducible refine Kd.qv ?_ _) | (with_reducible refine Kd.qx ?_))); (case side6 => exact HC0_2.out); rintro e w103 ⟨rfl, hb⟩; have n0_ := Aside0.mk (qo (g := gb112) (o := .cells #[.slice A0_0 l0_0.length c0_0, .slice (some ad113) l0_1.length c0_1, .slice A0_2 l0_2.length c0_2, .int .i64 a0_3] 26 (0, 0)) (by (with_reducible repeat (first | refine qg ?_ _ | refine qi ?_ | refine qf ?_ _)); exact BK112.out) hb); have n1_ := Aside0.mk (qo (g := gb114) (o := .cells #[.int .i64 ((qk l0_1 a1).f0), .int .i64 ((qk l0_1 a1).f1), .int .i64 ((qk l0_1 a1).f2), .int .u32 ((qk l0_1 a1).f3), .int .i64 ((qk l0_1 a1).f4), .int .i64 ((qk l0_1 a1).f5)] 62 (0, 0)) (by (with_reducible repeat (first | refine qg ?_ _ | refine qi ?_ | refine qf ?_ _)); exact BK114.out) hb); have n2_ := Aside0.mk (qq (by repeat (first | (with_reducible first | exact HB.out | apply qe | apply qc | apply qd | refine qh ?_ GE112.out | refine qh ?_ GE114.out) | exact HB.out)) hb); clear BK112; clear BK114; clear HB; have BK112 := n0_; have BK114 := n1_; have HB := n2_; clear n0_ n1_ n2_; (try clear hb); (try clear hb2); (try clear hk); (try clear hi); have hcz104_0 : w103.cell? ⟨gb112, 0, none⟩ = some (.slice A0_0 l0_0.length c0_0) := (qb BK112.out 0).trans rfl; have hcz104_1 : w103.cell? ⟨gb112, 1, none⟩ = some (.slice (some ad113) l0_1.length c0_1) := (qb BK112.out 1).trans rfl; have hcz104_2 : w103.cell? ⟨gb112, 2, none⟩ = some (.slice A0_2 l0_2.length c0_2) := (qb BK112.out 2).trans rfl; have hcz104_3 : w103.cell? ⟨gb112, 3, none⟩ = some (.int .i64 a0_3) := (qb BK112.out 3).trans rfl; have hfz104_0 := qa BK112.out 0; have hfz104_1 := qa BK112.out 1; have hfz104_2 := qa BK112.out 2; have hfz104_3 := qa BK112.out 3; have hcz105_0 : w103.cell? ⟨gb114, 0, none⟩ = some (.int .i64 ((qk l0_1 a1).f0)) := (qb BK114.out 0).trans rfl; have hcz105_1 : w103.cell? ⟨gb114, 1, none⟩ = some (.int .i64 ((qk l0_1 a1).f1)) := (qb BK114.out 1).trans rfl; have hcz105_2 : w103.cell? ⟨gb114, 2, none⟩ = some (.int .i64 ((qk l0_1 a1).f2)) := (qb BK114.out 2).trans rfl; have hcz105_3 : w103.cell? ⟨gb114, 3, none⟩ = some (.int .u32 ((qk l0_1 a1).f3)) := (qb BK114.out 3).trans rfl; have hcz105_4 : w103.cell? ⟨gb114, 4, none⟩ = some (.int .i64 ((qk l0_1 a1).f4)) := (qb BK114.out 4).trans rfl; have hcz105_5 : w103.cell? ⟨gb114, 5, none⟩ = some (.int .i64 ((qk l0_1 a1).f5)) := (qb BK114.out 5).trans rfl; have hfz105_0 := qa BK114.out 0; have hfz105_1 := qa BK114.out 1; have hfz105_2 := qa BK114.out 2; have hfz105_3 := qa BK114.out 3; have hfz105_4 := qa BK114.out 4; have hfz105_5 := qa BK114.out 5) | (go_at_call 49; (with_reducible refine (mimesisref23_exit.calls kj4 _ _ l0_0 _ _ l0_1 _ _ l0_2 a0_3 ((qk l0_1 a1).f4) a1 true _ ?side1 ?side2 ?side3 ?side4 ?side5 ?side6 A94.out).mono ?_); (case side1 => repeat (first | exact (Kd.qn HR0_0.out HB.out) | (with_reducible refine Kd.qu ?_ _) | (with_reducible refine Kd.qv ?_ _) | (with_reducible refine Kd.qx ?_))); (case side2 => exact HC0_0.out); (case side3 => repeat (first | exact (Kd.qn HR0_1.out HB.out) | (with_reducible refine Kd.qu ?_ _) | (with_reducible refine Kd.qv ?_ _) | (with_reducible refine Kd.qx ?_))); (case side4 => exact HC0_1.out); (case side5 => repeat (first | exact (Kd.qn HR0_2.out HB.out) | (with_reducible refine Kd.qu ?_ _) | (with_reducible refine Kd.qv ?_ _) | (with_reducible refine Kd.qx ?_))); (case side6 => exact HC0_2.out); rintro e w106 ⟨rfl, hb⟩; have n0_ := Aside0.mk (qo (g := gb112) (o := .cells #[.slice A0_0 l0_0.length c0_0, .slice (some ad113) l0_1.length c0_1, .slice A0_2 l0_2.length c0_2, .int .i64 a0_3] 26 (0, 0)) (by (with_reducible repeat (first | refine qg ?_ _ | refine qi ?_ | refine qf ?_ _)); exact BK112.out) hb); have n1_ := Aside0.mk (qo (g := gb114) (o := .cells #[.int .i64 ((qk l0_1 a1).f0), .int .i64 ((qk l0_1 a1).f1), .int .i64 ((qk l0_1 a1).f2), .int .u32 ((qk l0_1 a1).f3), .int .i64 ((qk l0_1 a1).f4), .int .i64 ((qk l0_1 a1).f5)] 62 (0, 0)) (by (with_reducible repeat (first | refine qg ?_ _ | refine qi ?_ | refine qf ?_ _)); exact BK114.out) hb); have n2_ := Aside0.mk (qq (by repeat (first | (with_reducible first | exact HB.out | apply qe | apply qc | apply qd | refine qh ?_ GE112.out | refine qh ?_ GE114.out) | exact HB.out)) hb); clear BK112; clear BK114; clear HB; have BK112 := n0_; have BK114 := n1_; have HB := n2_; clear n0_ n1_ n2_; (try clear hb); (try clear hb2); (try clear hk); (try clear hi); have hcz107_0 : w106.cell? ⟨gb112, 0, none⟩ = some (.slice A0_0 l0_0.length c0_0) := (qb BK112.out 0).trans rfl; have hcz107_1 : w106.cell? ⟨gb112, 1, none⟩ = some (.slice (some ad113) l0_1.length c0_1) := (qb BK112.out 1).trans rfl; have hcz107_2 : w106.cell? ⟨gb112, 2, none⟩ = some (.slice A0_2 l0_2.length c0_2) := (qb BK112.out 2).trans rfl; have hcz107_3 : w106.cell? ⟨gb112, 3, none⟩ = some (.int .i64 a0_3) := (qb BK112.out 3).trans rfl; have hfz107_0 := qa BK112.out 0; have hfz107_1 := qa BK112.out 1; have hfz107_2 := qa BK112.out 2; have hfz107_3 := qa BK112.out 3; have hcz108_0 : w106.cell? ⟨gb114, 0, none⟩ = some (.int .i64 ((qk l0_1 a1).f0)) := (qb BK114.out 0).trans rfl; have hcz108_1 : w106.cell? ⟨gb114, 1, none⟩ = some (.int .i64 ((qk l0_1 a1).f1)) := (qb BK114.out 1).trans rfl; have hcz108_2 : w106.cell? ⟨gb114, 2, none⟩ = some (.int .i64 ((qk l0_1 a1).f2)) := (qb BK114.out 2).trans rfl; have hcz108_3 : w106.cell? ⟨gb114, 3, none⟩ = some (.int .u32 ((qk l0_1 a1).f3)) := (qb BK114.out 3).trans rfl; have hcz108_4 : w106.cell? ⟨gb114, 4, none⟩ = some (.int .i64 ((qk l0_1 a1).f4)) := (qb BK114.out 4).trans rfl; have hcz108_5 : w106.cell? ⟨gb114, 5, none⟩ = some (.int .i64 ((qk l0_1 a1).f5)) := (qb BK114.out 5).trans rfl; have hfz108_0 := qa BK114.out 0; have hfz108_1 := qa BK114.out 1; have hfz108_2 := qa BK114.out 2; have hfz108_3 := qa BK114.out 3; have hfz108_4 := qa BK114.out 4; have hfz108_5 := qa BK114.out 5) | (go_at_call 49; (with_reducible refine (mimesisref23_exit.calls kj4 _ _ l0_0 _ _ l0_1 _ _ l0_2 a0_3 ((qk l0_1 a1).f5) a1 t125 _ ?side1 ?side2 ?side3 ?side4 ?side5 ?side6 A96.out).mono ?_); (case side1 => repeat (first | exact (Kd.qn HR0_0.out HB.out) | (with_reducible refine Kd.qu ?_ _) | (with_reducible refine Kd.qv ?_ _) | (with_reducible refine Kd.qx ?_))); (case side2 => exact HC0_0.out); (case side3 => repeat (first | exact (Kd.qn HR0_1.out HB.out) | (with_reducible refine Kd.qu ?_ _) | (with_reducible refine Kd.qv ?_ _) | (with_reducible refine Kd.qx ?_))); (case side4 => exact HC0_1.out); (case side5 => repeat (first | exact (Kd.qn HR0_2.out HB.out) | (with_reducible refine Kd.qu ?_ _) | (with_reducible refine Kd.qv ?_ _) | (with_reducible refine Kd.qx ?_))); (case side6 => exact HC0_2.out); rintro e w109 ⟨rfl, hb⟩; have n0_ := Aside0.mk (qo (g := gb112) (o := .cells #[.slice A0_0 l0_0.length c0_0, .slice (some ad113) l0_1.length c0_1, .slice A0_2 l0_2.length c0_2, .int .i64 a0_3] 26 (0, 0)) (by (with_reducible repeat (first | refine qg ?_ _ | refine qi ?_ | refine qf ?_ _)); exact BK112.out) hb); have n1_ := Aside0.mk (qo (g := gb114) (o := .cells #[.int .i64 ((qk l0_1 a1).f0), .int .i64 ((qk l0_1 a1).f1), .int .i64 ((qk l0_1 a1).f2), .int .u32 ((qk l0_1 a1).f3), .int .i64 ((qk l0_1 a1).f4), .int .i64 ((qk l0_1 a1).f5)] 62 (0, 0)) (by (with_reducible repeat (first | refine qg ?_ _ | refine qi ?_ | refine qf ?_ _)); exact BK114.out) hb); have n2_ := Aside0.mk (qq (by repeat (first | (with_reducible first | exact HB.out | apply qe | apply qc | apply qd | refine qh ?_ GE112.out | refine qh ?_ GE114.out) | exact HB.out)) hb); clear BK112; clear BK114; clear HB; have BK112 := n0_; have BK114 := n1_; have HB := n2_; clear n0_ n1_ n2_; (try clear hb); (try clear hb2); (try clear hk); (try clear hi)))
              go_ret
              exact ⟨by first | rfl | (simp [ql, qm] <;> rfl) | (simp [*, ql, qm] <;> rfl), by repeat (first | (with_reducible first | exact HB.out | apply qe | apply qc | apply qd | refine qh ?_ GE112.out | refine qh ?_ GE114.out) | exact HB.out)⟩
             ·replace c95 := Bool.eq_false_iff.mpr c95
              subst c95
              have H1 : (some false) = some r := by rw [if_neg (show ¬ (false = true) by decide)] at H; exact H
              clear H
              have H := H1
              clear H1
              obtain rfl := Option.some.inj H
              have hnb110 := NB114_112.out
              have hnc110 := NB112_114.out
              have hcz111_0 : wc.cell? ⟨gb114, 0, none⟩ = some (.int .i64 ((qk l0_1 a1).f0)) := (qb BK114.out 0).trans rfl
              have hcz111_1 : wc.cell? ⟨gb114, 1, none⟩ = some (.int .i64 ((qk l0_1 a1).f1)) := (qb BK114.out 1).trans rfl
              have hcz111_2 : wc.cell? ⟨gb114, 2, none⟩ = some (.int .i64 ((qk l0_1 a1).f2)) := (qb BK114.out 2).trans rfl
              have hcz111_3 : wc.cell? ⟨gb114, 3, none⟩ = some (.int .u32 ((qk l0_1 a1).f3)) := (qb BK114.out 3).trans rfl
              have hcz111_4 : wc.cell? ⟨gb114, 4, none⟩ = some (.int .i64 ((qk l0_1 a1).f4)) := (qb BK114.out 4).trans rfl
              have hcz111_5 : wc.cell? ⟨gb114, 5, none⟩ = some (.int .i64 ((qk l0_1 a1).f5)) := (qb BK114.out 5).trans rfl
              have hfz111_0 := qa BK114.out 0
              have hfz111_1 := qa BK114.out 1
              have hfz111_2 := qa BK114.out 2
              have hfz111_3 := qa BK114.out 3
              have hfz111_4 := qa BK114.out 4
              have hfz111_5 := qa BK114.out 5
              go_wp2_with (first | ((with_reducible refine qw (f := 64) rfl ?_); refine qN (some 113) rfl rfl Try.func64 (by kernel_rfl) rfl #[.int .i64 (wrap64 ((qk l0_1 a1).f3))] rfl (by (try simp only [List.map_toArray, List.map_cons, List.map_nil]); first | done | rfl | (simp only [List.length_drop, List.length_take]; rfl)) ?_; (with_reducible refine (mimesisref02_Stores.calls (wrap64 ((qk l0_1 a1).f3)) t121 _ A88.out).mono ?_); rintro e w' ⟨rfl, ⟨nd, rfl⟩⟩; refine ⟨_, rfl, ?_⟩; have hcz112_0 : wc.cell? ⟨gb112, 0, none⟩ = some (.slice A0_0 l0_0.length c0_0) := (qb BK112.out 0).trans rfl; have hcz112_1 : wc.cell? ⟨gb112, 1, none⟩ = some (.slice (some ad113) l0_1.length c0_1) := (qb BK112.out 1).trans rfl; have hcz112_2 : wc.cell? ⟨gb112, 2, none⟩ = some (.slice A0_2 l0_2.length c0_2) := (qb BK112.out 2).trans rfl; have hcz112_3 : wc.cell? ⟨gb112, 3, none⟩ = some (.int .i64 a0_3) := (qb BK112.out 3).trans rfl; have hfz112_0 := qa BK112.out 0; have hfz112_1 := qa BK112.out 1; have hfz112_2 := qa BK112.out 2; have hfz112_3 := qa BK112.out 3) | (go_at_call 86; (with_reducible refine (mimesisref23_Value.calls _ _ l0_0 _ _ l0_1 _ _ l0_2 a0_3 ((qk l0_1 a1).f1) a1 true _ ?side1 ?side2 ?side3 ?side4 ?side5 ?side6 A90.out).mono ?_); (case side1 => repeat (first | exact (Kd.qn HR0_0.out (by repeat (first | (with_reducible first | exact HB.out | apply qe | apply qc | apply qd | refine qh ?_ GE112.out | refine qh ?_ GE114.out) | exact HB.out))) | (with_reducible refine Kd.qu ?_ _) | (with_reducible refine Kd.qv ?_ _) | (with_reducible refine Kd.qx ?_))); (case side2 => exact HC0_0.out); (case side3 => repeat (first | exact (Kd.qn HR0_1.out (by repeat (first | (with_reducible first | exact HB.out | apply qe | apply qc | apply qd | refine qh ?_ GE112.out | refine qh ?_ GE114.out) | exact HB.out))) | (with_reducible refine Kd.qu ?_ _) | (with_reducible refine Kd.qv ?_ _) | (with_reducible refine Kd.qx ?_))); (case side4 => exact HC0_1.out); (case side5 => repeat (first | exact (Kd.qn HR0_2.out (by repeat (first | (with_reducible first | exact HB.out | apply qe | apply qc | apply qd | refine qh ?_ GE112.out | refine qh ?_ GE114.out) | exact HB.out))) | (with_reducible refine Kd.qu ?_ _) | (with_reducible refine Kd.qv ?_ _) | (with_reducible refine Kd.qx ?_))); (case side6 => exact HC0_2.out); rintro e w113 ⟨rfl, hb⟩; have n0_ := Aside0.mk (qo (g := gb112) (o := .cells #[.slice A0_0 l0_0.length c0_0, .slice (some ad113) l0_1.length c0_1, .slice A0_2 l0_2.length c0_2, .int .i64 a0_3] 26 (0, 0)) (by (with_reducible repeat (first | refine qg ?_ _ | refine qi ?_ | refine qf ?_ _)); exact BK112.out) hb); have n1_ := Aside0.mk (qo (g := gb114) (o := .cells #[.int .i64 ((qk l0_1 a1).f0), .int .i64 ((qk l0_1 a1).f1), .int .i64 ((qk l0_1 a1).f2), .int .u32 ((qk l0_1 a1).f3), .int .i64 ((qk l0_1 a1).f4), .int .i64 ((qk l0_1 a1).f5)] 62 (0, 0)) (by (with_reducible repeat (first | refine qg ?_ _ | refine qi ?_ | refine qf ?_ _)); exact BK114.out) hb); have n2_ := Aside0.mk (qq (by repeat (first | (with_reducible first | exact HB.out | apply qe | apply qc | apply qd | refine qh ?_ GE112.out | refine qh ?_ GE114.out) | exact HB.out)) hb); clear BK112; clear BK114; clear HB; have BK112 := n0_; have BK114 := n1_; have HB := n2_; clear n0_ n1_ n2_; (try clear hb); (try clear hb2); (try clear hk); (try clear hi); have hcz114_0 : w113.cell? ⟨gb112, 0, none⟩ = some (.slice A0_0 l0_0.length c0_0) := (qb BK112.out 0).trans rfl; have hcz114_1 : w113.cell? ⟨gb112, 1, none⟩ = some (.slice (some ad113) l0_1.length c0_1) := (qb BK112.out 1).trans rfl; have hcz114_2 : w113.cell? ⟨gb112, 2, none⟩ = some (.slice A0_2 l0_2.length c0_2) := (qb BK112.out 2).trans rfl; have hcz114_3 : w113.cell? ⟨gb112, 3, none⟩ = some (.int .i64 a0_3) := (qb BK112.out 3).trans rfl; have hfz114_0 := qa BK112.out 0; have hfz114_1 := qa BK112.out 1; have hfz114_2 := qa BK112.out 2; have hfz114_3 := qa BK112.out 3; have hcz115_0 : w113.cell? ⟨gb114, 0, none⟩ = some (.int .i64 ((qk l0_1 a1).f0)) := (qb BK114.out 0).trans rfl; have hcz115_1 : w113.cell? ⟨gb114, 1, none⟩ = some (.int .i64 ((qk l0_1 a1).f1)) := (qb BK114.out 1).trans rfl; have hcz115_2 : w113.cell? ⟨gb114, 2, none⟩ = some (.int .i64 ((qk l0_1 a1).f2)) := (qb BK114.out 2).trans rfl; have hcz115_3 : w113.cell? ⟨gb114, 3, none⟩ = some (.int .u32 ((qk l0_1 a1).f3)) := (qb BK114.out 3).trans rfl; have hcz115_4 : w113.cell? ⟨gb114, 4, none⟩ = some (.int .i64 ((qk l0_1 a1).f4)) := (qb BK114.out 4).trans rfl; have hcz115_5 : w113.cell? ⟨gb114, 5, none⟩ = some (.int .i64 ((qk l0_1 a1).f5)) := (qb BK114.out 5).trans rfl; have hfz115_0 := qa BK114.out 0; have hfz115_1 := qa BK114.out 1; have hfz115_2 := qa BK114.out 2; have hfz115_3 := qa BK114.out 3; have hfz115_4 := qa BK114.out 4; have hfz115_5 := qa BK114.out 5) | (go_at_call 86; (with_reducible refine (mimesisref23_Value.calls _ _ l0_0 _ _ l0_1 _ _ l0_2 a0_3 ((qk l0_1 a1).f2) a1 true _ ?side1 ?side2 ?side3 ?side4 ?side5 ?side6 A92.out).mono ?_); (case side1 => repeat (first | exact (Kd.qn HR0_0.out HB.out) | (with_reducible refine Kd.qu ?_ _) | (with_reducible refine Kd.qv ?_ _) | (with_reducible refine Kd.qx ?_))); (case side2 => exact HC0_0.out); (case side3 => repeat (first | exact (Kd.qn HR0_1.out HB.out) | (with_reducible refine Kd.qu ?_ _) | (with_reducible refine Kd.qv ?_ _) | (with_reducible refine Kd.qx ?_))); (case side4 => exact HC0_1.out); (case side5 => repeat (first | exact (Kd.qn HR0_2.out HB.out) | (with_reducible refine Kd.qu ?_ _) | (with_reducible refine Kd.qv ?_ _) | (with_reducible refine Kd.qx ?_))); (case side6 => exact HC0_2.out); rintro e w116 ⟨rfl, hb⟩; have n0_ := Aside0.mk (qo (g := gb112) (o := .cells #[.slice A0_0 l0_0.length c0_0, .slice (some ad113) l0_1.length c0_1, .slice A0_2 l0_2.length c0_2, .int .i64 a0_3] 26 (0, 0)) (by (with_reducible repeat (first | refine qg ?_ _ | refine qi ?_ | refine qf ?_ _)); exact BK112.out) hb); have n1_ := Aside0.mk (qo (g := gb114) (o := .cells #[.int .i64 ((qk l0_1 a1).f0), .int .i64 ((qk l0_1 a1).f1), .int .i64 ((qk l0_1 a1).f2), .int .u32 ((qk l0_1 a1).f3), .int .i64 ((qk l0_1 a1).f4), .int .i64 ((qk l0_1 a1).f5)] 62 (0, 0)) (by (with_reducible repeat (first | refine qg ?_ _ | refine qi ?_ | refine qf ?_ _)); exact BK114.out) hb); have n2_ := Aside0.mk (qq (by repeat (first | (with_reducible first | exact HB.out | apply qe | apply qc | apply qd | refine qh ?_ GE112.out | refine qh ?_ GE114.out) | exact HB.out)) hb); clear BK112; clear BK114; clear HB; have BK112 := n0_; have BK114 := n1_; have HB := n2_; clear n0_ n1_ n2_; (try clear hb); (try clear hb2); (try clear hk); (try clear hi); have hcz117_0 : w116.cell? ⟨gb112, 0, none⟩ = some (.slice A0_0 l0_0.length c0_0) := (qb BK112.out 0).trans rfl; have hcz117_1 : w116.cell? ⟨gb112, 1, none⟩ = some (.slice (some ad113) l0_1.length c0_1) := (qb BK112.out 1).trans rfl; have hcz117_2 : w116.cell? ⟨gb112, 2, none⟩ = some (.slice A0_2 l0_2.length c0_2) := (qb BK112.out 2).trans rfl; have hcz117_3 : w116.cell? ⟨gb112, 3, none⟩ = some (.int .i64 a0_3) := (qb BK112.out 3).trans rfl; have hfz117_0 := qa BK112.out 0; have hfz117_1 := qa BK112.out 1; have hfz117_2 := qa BK112.out 2; have hfz117_3 := qa BK112.out 3; have hcz118_0 : w116.cell? ⟨gb114, 0, none⟩ = some (.int .i64 ((qk l0_1 a1).f0)) := (qb BK114.out 0).trans rfl; have hcz118_1 : w116.cell? ⟨gb114, 1, none⟩ = some (.int .i64 ((qk l0_1 a1).f1)) := (qb BK114.out 1).trans rfl; have hcz118_2 : w116.cell? ⟨gb114, 2, none⟩ = some (.int .i64 ((qk l0_1 a1).f2)) := (qb BK114.out 2).trans rfl; have hcz118_3 : w116.cell? ⟨gb114, 3, none⟩ = some (.int .u32 ((qk l0_1 a1).f3)) := (qb BK114.out 3).trans rfl; have hcz118_4 : w116.cell? ⟨gb114, 4, none⟩ = some (.int .i64 ((qk l0_1 a1).f4)) := (qb BK114.out 4).trans rfl; have hcz118_5 : w116.cell? ⟨gb114, 5, none⟩ = some (.int .i64 ((qk l0_1 a1).f5)) := (qb BK114.out 5).trans rfl; have hfz118_0 := qa BK114.out 0; have hfz118_1 := qa BK114.out 1; have hfz118_2 := qa BK114.out 2; have hfz118_3 := qa BK114.out 3; have hfz118_4 := qa BK114.out 4; have hfz118_5 := qa BK114.out 5) | (go_at_call 49; (with_reducible refine (mimesisref23_exit.calls kj4 _ _ l0_0 _ _ l0_1 _ _ l0_2 a0_3 ((qk l0_1 a1).f4) a1 false _ ?side1 ?side2 ?side3 ?side4 ?side5 ?side6 A94.out).mono ?_); (case side1 => repeat (first | exact (Kd.qn HR0_0.out HB.out) | (with_reducible refine Kd.qu ?_ _) | (with_reducible refine Kd.qv ?_ _) | (with_reducible refine Kd.qx ?_))); (case side2 => exact HC0_0.out); (case side3 => repeat (first | exact (Kd.qn HR0_1.out HB.out) | (with_reducible refine Kd.qu ?_ _) | (with_reducible refine Kd.qv ?_ _) | (with_reducible refine Kd.qx ?_))); (case side4 => exact HC0_1.out); (case side5 => repeat (first | exact (Kd.qn HR0_2.out HB.out) | (with_reducible refine Kd.qu ?_ _) | (with_reducible refine Kd.qv ?_ _) | (with_reducible refine Kd.qx ?_))); (case side6 => exact HC0_2.out); rintro e w119 ⟨rfl, hb⟩; have n0_ := Aside0.mk (qo (g := gb112) (o := .cells #[.slice A0_0 l0_0.length c0_0, .slice (some ad113) l0_1.length c0_1, .slice A0_2 l0_2.length c0_2, .int .i64 a0_3] 26 (0, 0)) (by (with_reducible repeat (first | refine qg ?_ _ | refine qi ?_ | refine qf ?_ _)); exact BK112.out) hb); have n1_ := Aside0.mk (qo (g := gb114) (o := .cells #[.int .i64 ((qk l0_1 a1).f0), .int .i64 ((qk l0_1 a1).f1), .int .i64 ((qk l0_1 a1).f2), .int .u32 ((qk l0_1 a1).f3), .int .i64 ((qk l0_1 a1).f4), .int .i64 ((qk l0_1 a1).f5)] 62 (0, 0)) (by (with_reducible repeat (first | refine qg ?_ _ | refine qi ?_ | refine qf ?_ _)); exact BK114.out) hb); have n2_ := Aside0.mk (qq (by repeat (first | (with_reducible first | exact HB.out | apply qe | apply qc | apply qd | refine qh ?_ GE112.out | refine qh ?_ GE114.out) | exact HB.out)) hb); clear BK112; clear BK114; clear HB; have BK112 := n0_; have BK114 := n1_; have HB := n2_; clear n0_ n1_ n2_; (try clear hb); (try clear hb2); (try clear hk); (try clear hi)))
              go_ret
              exact ⟨by first | rfl | (simp [ql, qm] <;> rfl) | (simp [*, ql, qm] <;> rfl), by repeat (first | (with_reducible first | exact HB.out | apply qe | apply qc | apply qd | refine qh ?_ GE112.out | refine qh ?_ GE114.out) | exact HB.out)⟩
            ·replace c93 := Bool.eq_false_iff.mpr c93
             subst c93
             have H1 : (some false) = some r := by rw [if_neg (show ¬ (false = true) by decide)] at H; exact H
             clear H
             have H := H1
             clear H1
             obtain rfl := Option.some.inj H
             have hnb120 := NB114_112.out
             have hnc120 := NB112_114.out
             have hcz121_0 : wc.cell? ⟨gb114, 0, none⟩ = some (.int .i64 ((qk l0_1 a1).f0)) := (qb BK114.out 0).trans rfl
             have hcz121_1 : wc.cell? ⟨gb114, 1, none⟩ = some (.int .i64 ((qk l0_1 a1).f1)) := (qb BK114.out 1).trans rfl
             have hcz121_2 : wc.cell? ⟨gb114, 2, none⟩ = some (.int .i64 ((qk l0_1 a1).f2)) := (qb BK114.out 2).trans rfl
             have hcz121_3 : wc.cell? ⟨gb114, 3, none⟩ = some (.int .u32 ((qk l0_1 a1).f3)) := (qb BK114.out 3).trans rfl
             have hcz121_4 : wc.cell? ⟨gb114, 4, none⟩ = some (.int .i64 ((qk l0_1 a1).f4)) := (qb BK114.out 4).trans rfl
             have hcz121_5 : wc.cell? ⟨gb114, 5, none⟩ = some (.int .i64 ((qk l0_1 a1).f5)) := (qb BK114.out 5).trans rfl
             have hfz121_0 := qa BK114.out 0
             have hfz121_1 := qa BK114.out 1
             have hfz121_2 := qa BK114.out 2
             have hfz121_3 := qa BK114.out 3
             have hfz121_4 := qa BK114.out 4
             have hfz121_5 := qa BK114.out 5
             go_wp2_with (first | ((with_reducible refine qw (f := 64) rfl ?_); refine qN (some 113) rfl rfl Try.func64 (by kernel_rfl) rfl #[.int .i64 (wrap64 ((qk l0_1 a1).f3))] rfl (by (try simp only [List.map_toArray, List.map_cons, List.map_nil]); first | done | rfl | (simp only [List.length_drop, List.length_take]; rfl)) ?_; (with_reducible refine (mimesisref02_Stores.calls (wrap64 ((qk l0_1 a1).f3)) t121 _ A88.out).mono ?_); rintro e w' ⟨rfl, ⟨nd, rfl⟩⟩; refine ⟨_, rfl, ?_⟩; have hcz122_0 : wc.cell? ⟨gb112, 0, none⟩ = some (.slice A0_0 l0_0.length c0_0) := (qb BK112.out 0).trans rfl; have hcz122_1 : wc.cell? ⟨gb112, 1, none⟩ = some (.slice (some ad113) l0_1.length c0_1) := (qb BK112.out 1).trans rfl; have hcz122_2 : wc.cell? ⟨gb112, 2, none⟩ = some (.slice A0_2 l0_2.length c0_2) := (qb BK112.out 2).trans rfl; have hcz122_3 : wc.cell? ⟨gb112, 3, none⟩ = some (.int .i64 a0_3) := (qb BK112.out 3).trans rfl; have hfz122_0 := qa BK112.out 0; have hfz122_1 := qa BK112.out 1; have hfz122_2 := qa BK112.out 2; have hfz122_3 := qa BK112.out 3) | (go_at_call 86; (with_reducible refine (mimesisref23_Value.calls _ _ l0_0 _ _ l0_1 _ _ l0_2 a0_3 ((qk l0_1 a1).f1) a1 true _ ?side1 ?side2 ?side3 ?side4 ?side5 ?side6 A90.out).mono ?_); (case side1 => repeat (first | exact (Kd.qn HR0_0.out (by repeat (first | (with_reducible first | exact HB.out | apply qe | apply qc | apply qd | refine qh ?_ GE112.out | refine qh ?_ GE114.out) | exact HB.out))) | (with_reducible refine Kd.qu ?_ _) | (with_reducible refine Kd.qv ?_ _) | (with_reducible refine Kd.qx ?_))); (case side2 => exact HC0_0.out); (case side3 => repeat (first | exact (Kd.qn HR0_1.out (by repeat (first | (with_reducible first | exact HB.out | apply qe | apply qc | apply qd | refine qh ?_ GE112.out | refine qh ?_ GE114.out) | exact HB.out))) | (with_reducible refine Kd.qu ?_ _) | (with_reducible refine Kd.qv ?_ _) | (with_reducible refine Kd.qx ?_))); (case side4 => exact HC0_1.out); (case side5 => repeat (first | exact (Kd.qn HR0_2.out (by repeat (first | (with_reducible first | exact HB.out | apply qe | apply qc | apply qd | refine qh ?_ GE112.out | refine qh ?_ GE114.out) | exact HB.out))) | (with_reducible refine Kd.qu ?_ _) | (with_reducible refine Kd.qv ?_ _) | (with_reducible refine Kd.qx ?_))); (case side6 => exact HC0_2.out); rintro e w123 ⟨rfl, hb⟩; have n0_ := Aside0.mk (qo (g := gb112) (o := .cells #[.slice A0_0 l0_0.length c0_0, .slice (some ad113) l0_1.length c0_1, .slice A0_2 l0_2.length c0_2, .int .i64 a0_3] 26 (0, 0)) (by (with_reducible repeat (first | refine qg ?_ _ | refine qi ?_ | refine qf ?_ _)); exact BK112.out) hb); have n1_ := Aside0.mk (qo (g := gb114) (o := .cells #[.int .i64 ((qk l0_1 a1).f0), .int .i64 ((qk l0_1 a1).f1), .int .i64 ((qk l0_1 a1).f2), .int .u32 ((qk l0_1 a1).f3), .int .i64 ((qk l0_1 a1).f4), .int .i64 ((qk l0_1 a1).f5)] 62 (0, 0)) (by (with_reducible repeat (first | refine qg ?_ _ | refine qi ?_ | refine qf ?_ _)); exact BK114.out) hb); have n2_ := Aside0.mk (qq (by repeat (first | (with_reducible first | exact HB.out | apply qe | apply qc | apply qd | refine qh ?_ GE112.out | refine qh ?_ GE114.out) | exact HB.out)) hb); clear BK112; clear BK114; clear HB; have BK112 := n0_; have BK114 := n1_; have HB := n2_; clear n0_ n1_ n2_; (try clear hb); (try clear hb2); (try clear hk); (try clear hi); have hcz124_0 : w123.cell? ⟨gb112, 0, none⟩ = some (.slice A0_0 l0_0.length c0_0) := (qb BK112.out 0).trans rfl; have hcz124_1 : w123.cell? ⟨gb112, 1, none⟩ = some (.slice (some ad113) l0_1.length c0_1) := (qb BK112.out 1).trans rfl; have hcz124_2 : w123.cell? ⟨gb112, 2, none⟩ = some (.slice A0_2 l0_2.length c0_2) := (qb BK112.out 2).trans rfl; have hcz124_3 : w123.cell? ⟨gb112, 3, none⟩ = some (.int .i64 a0_3) := (qb BK112.out 3).trans rfl; have hfz124_0 := qa BK112.out 0; have hfz124_1 := qa BK112.out 1; have hfz124_2 := qa BK112.out 2; have hfz124_3 := qa BK112.out 3; have hcz125_0 : w123.cell? ⟨gb114, 0, none⟩ = some (.int .i64 ((qk l0_1 a1).f0)) := (qb BK114.out 0).trans rfl; have hcz125_1 : w123.cell? ⟨gb114, 1, none⟩ = some (.int .i64 ((qk l0_1 a1).f1)) := (qb BK114.out 1).trans rfl; have hcz125_2 : w123.cell? ⟨gb114, 2, none⟩ = some (.int .i64 ((qk l0_1 a1).f2)) := (qb BK114.out 2).trans rfl; have hcz125_3 : w123.cell? ⟨gb114, 3, none⟩ = some (.int .u32 ((qk l0_1 a1).f3)) := (qb BK114.out 3).trans rfl; have hcz125_4 : w123.cell? ⟨gb114, 4, none⟩ = some (.int .i64 ((qk l0_1 a1).f4)) := (qb BK114.out 4).trans rfl; have hcz125_5 : w123.cell? ⟨gb114, 5, none⟩ = some (.int .i64 ((qk l0_1 a1).f5)) := (qb BK114.out 5).trans rfl; have hfz125_0 := qa BK114.out 0; have hfz125_1 := qa BK114.out 1; have hfz125_2 := qa BK114.out 2; have hfz125_3 := qa BK114.out 3; have hfz125_4 := qa BK114.out 4; have hfz125_5 := qa BK114.out 5) | (go_at_call 86; (with_reducible refine (mimesisref23_Value.calls _ _ l0_0 _ _ l0_1 _ _ l0_2 a0_3 ((qk l0_1 a1).f2) a1 false _ ?side1 ?side2 ?side3 ?side4 ?side5 ?side6 A92.out).mono ?_); (case side1 => repeat (first | exact (Kd.qn HR0_0.out HB.out) | (with_reducible refine Kd.qu ?_ _) | (with_reducible refine Kd.qv ?_ _) | (with_reducible refine Kd.qx ?_))); (case side2 => exact HC0_0.out); (case side3 => repeat (first | exact (Kd.qn HR0_1.out HB.out) | (with_reducible refine Kd.qu ?_ _) | (with_reducible refine Kd.qv ?_ _) | (with_reducible refine Kd.qx ?_))); (case side4 => exact HC0_1.out); (case side5 => repeat (first | exact (Kd.qn HR0_2.out HB.out) | (with_reducible refine Kd.qu ?_ _) | (with_reducible refine Kd.qv ?_ _) | (with_reducible refine Kd.qx ?_))); (case side6 => exact HC0_2.out); rintro e w126 ⟨rfl, hb⟩; have n0_ := Aside0.mk (qo (g := gb112) (o := .cells #[.slice A0_0 l0_0.length c0_0, .slice (some ad113) l0_1.length c0_1, .slice A0_2 l0_2.length c0_2, .int .i64 a0_3] 26 (0, 0)) (by (with_reducible repeat (first | refine qg ?_ _ | refine qi ?_ | refine qf ?_ _)); exact BK112.out) hb); have n1_ := Aside0.mk (qo (g := gb114) (o := .cells #[.int .i64 ((qk l0_1 a1).f0), .int .i64 ((qk l0_1 a1).f1), .int .i64 ((qk l0_1 a1).f2), .int .u32 ((qk l0_1 a1).f3), .int .i64 ((qk l0_1 a1).f4), .int .i64 ((qk l0_1 a1).f5)] 62 (0, 0)) (by (with_reducible repeat (first | refine qg ?_ _ | refine qi ?_ | refine qf ?_ _)); exact BK114.out) hb); have n2_ := Aside0.mk (qq (by repeat (first | (with_reducible first | exact HB.out | apply qe | apply qc | apply qd | refine qh ?_ GE112.out | refine qh ?_ GE114.out) | exact HB.out)) hb); clear BK112; clear BK114; clear HB; have BK112 := n0_; have BK114 := n1_; have HB := n2_; clear n0_ n1_ n2_; (try clear hb); (try clear hb2); (try clear hk); (try clear hi)))
             go_ret
             exact ⟨by first | rfl | (simp [ql, qm] <;> rfl) | (simp [*, ql, qm] <;> rfl), by repeat (first | (with_reducible first | exact HB.out | apply qe | apply qc | apply qd | refine qh ?_ GE112.out | refine qh ?_ GE114.out) | exact HB.out)⟩
           ·replace c91 := Bool.eq_false_iff.mpr c91
            subst c91
            have H1 : (some false) = some r := by rw [if_neg (show ¬ (false = true) by decide)] at H; exact H
            clear H
            have H := H1
            clear H1
            obtain rfl := Option.some.inj H
            have hnb127 := NB114_112.out
            have hnc127 := NB112_114.out
            have hcz128_0 : wc.cell? ⟨gb114, 0, none⟩ = some (.int .i64 ((qk l0_1 a1).f0)) := (qb BK114.out 0).trans rfl
            have hcz128_1 : wc.cell? ⟨gb114, 1, none⟩ = some (.int .i64 ((qk l0_1 a1).f1)) := (qb BK114.out 1).trans rfl
            have hcz128_2 : wc.cell? ⟨gb114, 2, none⟩ = some (.int .i64 ((qk l0_1 a1).f2)) := (qb BK114.out 2).trans rfl
            have hcz128_3 : wc.cell? ⟨gb114, 3, none⟩ = some (.int .u32 ((qk l0_1 a1).f3)) := (qb BK114.out 3).trans rfl
            have hcz128_4 : wc.cell? ⟨gb114, 4, none⟩ = some (.int .i64 ((qk l0_1 a1).f4)) := (qb BK114.out 4).trans rfl
            have hcz128_5 : wc.cell? ⟨gb114, 5, none⟩ = some (.int .i64 ((qk l0_1 a1).f5)) := (qb BK114.out 5).trans rfl
            have hfz128_0 := qa BK114.out 0
            have hfz128_1 := qa BK114.out 1
            have hfz128_2 := qa BK114.out 2
            have hfz128_3 := qa BK114.out 3
            have hfz128_4 := qa BK114.out 4
            have hfz128_5 := qa BK114.out 5
            go_wp2_with (first | ((with_reducible refine qw (f := 64) rfl ?_); refine qN (some 113) rfl rfl Try.func64 (by kernel_rfl) rfl #[.int .i64 (wrap64 ((qk l0_1 a1).f3))] rfl (by (try simp only [List.map_toArray, List.map_cons, List.map_nil]); first | done | rfl | (simp only [List.length_drop, List.length_take]; rfl)) ?_; (with_reducible refine (mimesisref02_Stores.calls (wrap64 ((qk l0_1 a1).f3)) t121 _ A88.out).mono ?_); rintro e w' ⟨rfl, ⟨nd, rfl⟩⟩; refine ⟨_, rfl, ?_⟩; have hcz129_0 : wc.cell? ⟨gb112, 0, none⟩ = some (.slice A0_0 l0_0.length c0_0) := (qb BK112.out 0).trans rfl; have hcz129_1 : wc.cell? ⟨gb112, 1, none⟩ = some (.slice (some ad113) l0_1.length c0_1) := (qb BK112.out 1).trans rfl; have hcz129_2 : wc.cell? ⟨gb112, 2, none⟩ = some (.slice A0_2 l0_2.length c0_2) := (qb BK112.out 2).trans rfl; have hcz129_3 : wc.cell? ⟨gb112, 3, none⟩ = some (.int .i64 a0_3) := (qb BK112.out 3).trans rfl; have hfz129_0 := qa BK112.out 0; have hfz129_1 := qa BK112.out 1; have hfz129_2 := qa BK112.out 2; have hfz129_3 := qa BK112.out 3) | (go_at_call 86; (with_reducible refine (mimesisref23_Value.calls _ _ l0_0 _ _ l0_1 _ _ l0_2 a0_3 ((qk l0_1 a1).f1) a1 false _ ?side1 ?side2 ?side3 ?side4 ?side5 ?side6 A90.out).mono ?_); (case side1 => repeat (first | exact (Kd.qn HR0_0.out (by repeat (first | (with_reducible first | exact HB.out | apply qe | apply qc | apply qd | refine qh ?_ GE112.out | refine qh ?_ GE114.out) | exact HB.out))) | (with_reducible refine Kd.qu ?_ _) | (with_reducible refine Kd.qv ?_ _) | (with_reducible refine Kd.qx ?_))); (case side2 => exact HC0_0.out); (case side3 => repeat (first | exact (Kd.qn HR0_1.out (by repeat (first | (with_reducible first | exact HB.out | apply qe | apply qc | apply qd | refine qh ?_ GE112.out | refine qh ?_ GE114.out) | exact HB.out))) | (with_reducible refine Kd.qu ?_ _) | (with_reducible refine Kd.qv ?_ _) | (with_reducible refine Kd.qx ?_))); (case side4 => exact HC0_1.out); (case side5 => repeat (first | exact (Kd.qn HR0_2.out (by repeat (first | (with_reducible first | exact HB.out | apply qe | apply qc | apply qd | refine qh ?_ GE112.out | refine qh ?_ GE114.out) | exact HB.out))) | (with_reducible refine Kd.qu ?_ _) | (with_reducible refine Kd.qv ?_ _) | (with_reducible refine Kd.qx ?_))); (case side6 => exact HC0_2.out); rintro e w130 ⟨rfl, hb⟩; have n0_ := Aside0.mk (qo (g := gb112) (o := .cells #[.slice A0_0 l0_0.length c0_0, .slice (some ad113) l0_1.length c0_1, .slice A0_2 l0_2.length c0_2, .int .i64 a0_3] 26 (0, 0)) (by (with_reducible repeat (first | refine qg ?_ _ | refine qi ?_ | refine qf ?_ _)); exact BK112.out) hb); have n1_ := Aside0.mk (qo (g := gb114) (o := .cells #[.int .i64 ((qk l0_1 a1).f0), .int .i64 ((qk l0_1 a1).f1), .int .i64 ((qk l0_1 a1).f2), .int .u32 ((qk l0_1 a1).f3), .int .i64 ((qk l0_1 a1).f4), .int .i64 ((qk l0_1 a1).f5)] 62 (0, 0)) (by (with_reducible repeat (first | refine qg ?_ _ | refine qi ?_ | refine qf ?_ _)); exact BK114.out) hb); have n2_ := Aside0.mk (qq (by repeat (first | (with_reducible first | exact HB.out | apply qe | apply qc | apply qd | refine qh ?_ GE112.out | refine qh ?_ GE114.out) | exact HB.out)) hb); clear BK112; clear BK114; clear HB; have BK112 := n0_; have BK114 := n1_; have HB := n2_; clear n0_ n1_ n2_; (try clear hb); (try clear hb2); (try clear hk); (try clear hi)))
            go_ret
            exact ⟨by first | rfl | (simp [ql, qm] <;> rfl) | (simp [*, ql, qm] <;> rfl), by repeat (first | (with_reducible first | exact HB.out | apply qe | apply qc | apply qd | refine qh ?_ GE112.out | refine qh ?_ GE114.out) | exact HB.out)⟩
          ·rw [if_neg c89] at H
           have c89b0 : decide (0 < t121) = false := decide_eq_false c89
           clear c89
           obtain rfl := Option.some.inj H
           have hnb131 := NB114_112.out
           have hnc131 := NB112_114.out
           have hcz132_0 : wc.cell? ⟨gb114, 0, none⟩ = some (.int .i64 ((qk l0_1 a1).f0)) := (qb BK114.out 0).trans rfl
           have hcz132_1 : wc.cell? ⟨gb114, 1, none⟩ = some (.int .i64 ((qk l0_1 a1).f1)) := (qb BK114.out 1).trans rfl
           have hcz132_2 : wc.cell? ⟨gb114, 2, none⟩ = some (.int .i64 ((qk l0_1 a1).f2)) := (qb BK114.out 2).trans rfl
           have hcz132_3 : wc.cell? ⟨gb114, 3, none⟩ = some (.int .u32 ((qk l0_1 a1).f3)) := (qb BK114.out 3).trans rfl
           have hcz132_4 : wc.cell? ⟨gb114, 4, none⟩ = some (.int .i64 ((qk l0_1 a1).f4)) := (qb BK114.out 4).trans rfl
           have hcz132_5 : wc.cell? ⟨gb114, 5, none⟩ = some (.int .i64 ((qk l0_1 a1).f5)) := (qb BK114.out 5).trans rfl
           have hfz132_0 := qa BK114.out 0
           have hfz132_1 := qa BK114.out 1
           have hfz132_2 := qa BK114.out 2
           have hfz132_3 := qa BK114.out 3
           have hfz132_4 := qa BK114.out 4
           have hfz132_5 := qa BK114.out 5
           go_wp2_with (first | ((with_reducible refine qw (f := 64) rfl ?_); refine qN (some 113) rfl rfl Try.func64 (by kernel_rfl) rfl #[.int .i64 (wrap64 ((qk l0_1 a1).f3))] rfl (by (try simp only [List.map_toArray, List.map_cons, List.map_nil]); first | done | rfl | (simp only [List.length_drop, List.length_take]; rfl)) ?_; (with_reducible refine (mimesisref02_Stores.calls (wrap64 ((qk l0_1 a1).f3)) t121 _ A88.out).mono ?_); rintro e w' ⟨rfl, ⟨nd, rfl⟩⟩; refine ⟨_, rfl, ?_⟩))
           go_ret
           exact ⟨by first | rfl | (simp [ql, qm] <;> rfl) | (simp [*, ql, qm] <;> rfl), by repeat (first | (with_reducible first | exact HB.out | apply qe | apply qc | apply qd | refine qh ?_ GE112.out | refine qh ?_ GE114.out) | exact HB.out)⟩
         ·rw [if_neg c87] at H
          have c87b0 : (((qk l0_1 a1).f0) == 5) = false := beq_eq_false_iff_ne.mpr c87
          have c87b1 : (((qk l0_1 a1).f0) != 5) = true := bne_iff_ne.mpr c87
          by_cases c133 : ((qk l0_1 a1).f0) = 6
          ·rw [if_pos c133] at H
           have c133b0 : (((qk l0_1 a1).f0) == 6) = true := beq_iff_eq.mpr c133
           have c133b1 : (((qk l0_1 a1).f0) != 6) = false := bne_eq_false_iff_eq.mpr c133
           clear c133
           by_cases c134 : (wrap64 ((qk l0_1 a1).f3)) ≥ 5
           ·rw [if_pos c134] at H
            have c134b0 : decide (5 ≤ (wrap64 ((qk l0_1 a1).f3))) = true := decide_eq_true c134
            clear c134
            by_cases c135 : (wrap64 ((qk l0_1 a1).f3)) ≤ 10
            ·rw [if_pos c135] at H
             have c135b0 : decide ((wrap64 ((qk l0_1 a1).f3)) ≤ 10) = true := decide_eq_true c135
             clear c135
             by_cases c136 : ((qk l0_1 a1).f5) = 0
             ·rw [if_pos c136] at H
              have c136b0 : (((qk l0_1 a1).f5) == 0) = true := beq_iff_eq.mpr c136
              have c136b1 : (((qk l0_1 a1).f5) != 0) = false := bne_eq_false_iff_eq.mpr c136
              clear c136
              replace H := Option.bind_eq_some_iff.mp H
              obtain ⟨t126, A1370, H⟩ := H
              replace H : (if t126 = true then ((mimesisref23_Value.f l0_0 l0_1 l0_2 a0_3 ((qk l0_1 a1).f2) a1).bind fun t127 => (if t127 = true then ((mimesisref23_exit.f kj4 l0_0 l0_1 l0_2 a0_3 ((qk l0_1 a1).f4) a1).bind fun t128 => (some t128)) else (some false))) else (some false)) = some r := H
              have A137 := Aside0.mk A1370
              clear A1370
              by_cases c138 : t126 = true
              ·subst c138
               have H1 : ((mimesisref23_Value.f l0_0 l0_1 l0_2 a0_3 ((qk l0_1 a1).f2) a1).bind fun t127 => (if t127 = true then ((mimesisref23_exit.f kj4 l0_0 l0_1 l0_2 a0_3 ((qk l0_1 a1).f4) a1).bind fun t128 => (some t128)) else (some false))) = some r := by rw [if_pos rfl] at H; exact H
               clear H
               have H := H1
               clear H1
               replace H := Option.bind_eq_some_iff.mp H
               obtain ⟨t127, A1390, H⟩ := H
               replace H : (if t127 = true then ((mimesisref23_exit.f kj4 l0_0 l0_1 l0_2 a0_3 ((qk l0_1 a1).f4) a1).bind fun t128 => (some t128)) else (some false)) = some r := H
               have A139 := Aside0.mk A1390
               clear A1390
               by_cases c140 : t127 = true
               ·subst c140
                have H1 : ((mimesisref23_exit.f kj4 l0_0 l0_1 l0_2 a0_3 ((qk l0_1 a1).f4) a1).bind fun t128 => (some t128)) = some r := by rw [if_pos rfl] at H; exact H
                clear H
                have H := H1
                clear H1
                replace H := Option.bind_eq_some_iff.mp H
                obtain ⟨t128, A1410, H⟩ := H
                replace H : (some t128) = some r := H
                have A141 := Aside0.mk A1410
                clear A1410
                obtain rfl := Option.some.inj H
                have hnb142 := NB114_112.out
                have hnc142 := NB112_114.out
                have hcz143_0 : wc.cell? ⟨gb114, 0, none⟩ = some (.int .i64 ((qk l0_1 a1).f0)) := (qb BK114.out 0).trans rfl
                have hcz143_1 : wc.cell? ⟨gb114, 1, none⟩ = some (.int .i64 ((qk l0_1 a1).f1)) := (qb BK114.out 1).trans rfl
                have hcz143_2 : wc.cell? ⟨gb114, 2, none⟩ = some (.int .i64 ((qk l0_1 a1).f2)) := (qb BK114.out 2).trans rfl
                have hcz143_3 : wc.cell? ⟨gb114, 3, none⟩ = some (.int .u32 ((qk l0_1 a1).f3)) := (qb BK114.out 3).trans rfl
                have hcz143_4 : wc.cell? ⟨gb114, 4, none⟩ = some (.int .i64 ((qk l0_1 a1).f4)) := (qb BK114.out 4).trans rfl
                have hcz143_5 : wc.cell? ⟨gb114, 5, none⟩ = some (.int .i64 ((qk l0_1 a1).f5)) := (qb BK114.out 5).trans rfl
                have hfz143_0 := qa BK114.out 0
                have hfz143_1 := qa BK114.out 1
                have hfz143_2 := qa BK114.out 2
                have hfz143_3 := qa BK114.out 3
                have hfz143_4 := qa BK114.out 4
                have hfz143_5 := qa BK114.out 5
                have hcz144_0 : wc.cell? ⟨gb112, 0, none⟩ = some (.slice A0_0 l0_0.length c0_0) := (qb BK112.out 0).trans rfl
                have hcz144_1 : wc.cell? ⟨gb112, 1, none⟩ = some (.slice (some ad113) l0_1.length c0_1) := (qb BK112.out 1).trans rfl
                have hcz144_2 : wc.cell? ⟨gb112, 2, none⟩ = some (.slice A0_2 l0_2.length c0_2) := (qb BK112.out 2).trans rfl
                have hcz144_3 : wc.cell? ⟨gb112, 3, none⟩ = some (.int .i64 a0_3) := (qb BK112.out 3).trans rfl
                have hfz144_0 := qa BK112.out 0
                have hfz144_1 := qa BK112.out 1
                have hfz144_2 := qa BK112.out 2
                have hfz144_3 := qa BK112.out 3
                go_wp2_with (first | (go_at_call 86; (with_reducible refine (mimesisref23_Value.calls _ _ l0_0 _ _ l0_1 _ _ l0_2 a0_3 ((qk l0_1 a1).f1) a1 true _ ?side1 ?side2 ?side3 ?side4 ?side5 ?side6 A137.out).mono ?_); (case side1 => repeat (first | exact (Kd.qn HR0_0.out HB.out) | (with_reducible refine Kd.qu ?_ _) | (with_reducible refine Kd.qv ?_ _) | (with_reducible refine Kd.qx ?_))); (case side2 => exact HC0_0.out); (case side3 => repeat (first | exact (Kd.qn HR0_1.out HB.out) | (with_reducible refine Kd.qu ?_ _) | (with_reducible refine Kd.qv ?_ _) | (with_reducible refine Kd.qx ?_))); (case side4 => exact HC0_1.out); (case side5 => repeat (first | exact (Kd.qn HR0_2.out HB.out) | (with_reducible refine Kd.qu ?_ _) | (with_reducible refine Kd.qv ?_ _) | (with_reducible refine Kd.qx ?_))); (case side6 => exact HC0_2.out); rintro e w145 ⟨rfl, hb⟩; have n0_ := Aside0.mk (qo (g := gb112) (o := .cells #[.slice A0_0 l0_0.length c0_0, .slice (some ad113) l0_1.length c0_1, .slice A0_2 l0_2.length c0_2, .int .i64 a0_3] 26 (0, 0)) (by (with_reducible repeat (first | refine qg ?_ _ | refine qi ?_ | refine qf ?_ _)); exact BK112.out) hb); have n1_ := Aside0.mk (qo (g := gb114) (o := .cells #[.int .i64 ((qk l0_1 a1).f0), .int .i64 ((qk l0_1 a1).f1), .int .i64 ((qk l0_1 a1).f2), .int .u32 ((qk l0_1 a1).f3), .int .i64 ((qk l0_1 a1).f4), .int .i64 ((qk l0_1 a1).f5)] 62 (0, 0)) (by (with_reducible repeat (first | refine qg ?_ _ | refine qi ?_ | refine qf ?_ _)); exact BK114.out) hb); have n2_ := Aside0.mk (qq (by repeat (first | (with_reducible first | exact HB.out | apply qe | apply qc | apply qd | refine qh ?_ GE112.out | refine qh ?_ GE114.out) | exact HB.out)) hb); clear BK112; clear BK114; clear HB; have BK112 := n0_; have BK114 := n1_; have HB := n2_; clear n0_ n1_ n2_; (try clear hb); (try clear hb2); (try clear hk); (try clear hi); have hcz146_0 : w145.cell? ⟨gb112, 0, none⟩ = some (.slice A0_0 l0_0.length c0_0) := (qb BK112.out 0).trans rfl; have hcz146_1 : w145.cell? ⟨gb112, 1, none⟩ = some (.slice (some ad113) l0_1.length c0_1) := (qb BK112.out 1).trans rfl; have hcz146_2 : w145.cell? ⟨gb112, 2, none⟩ = some (.slice A0_2 l0_2.length c0_2) := (qb BK112.out 2).trans rfl; have hcz146_3 : w145.cell? ⟨gb112, 3, none⟩ = some (.int .i64 a0_3) := (qb BK112.out 3).trans rfl; have hfz146_0 := qa BK112.out 0; have hfz146_1 := qa BK112.out 1; have hfz146_2 := qa BK112.out 2; have hfz146_3 := qa BK112.out 3; have hcz147_0 : w145.cell? ⟨gb114, 0, none⟩ = some (.int .i64 ((qk l0_1 a1).f0)) := (qb BK114.out 0).trans rfl; have hcz147_1 : w145.cell? ⟨gb114, 1, none⟩ = some (.int .i64 ((qk l0_1 a1).f1)) := (qb BK114.out 1).trans rfl; have hcz147_2 : w145.cell? ⟨gb114, 2, none⟩ = some (.int .i64 ((qk l0_1 a1).f2)) := (qb BK114.out 2).trans rfl; have hcz147_3 : w145.cell? ⟨gb114, 3, none⟩ = some (.int .u32 ((qk l0_1 a1).f3)) := (qb BK114.out 3).trans rfl; have hcz147_4 : w145.cell? ⟨gb114, 4, none⟩ = some (.int .i64 ((qk l0_1 a1).f4)) := (qb BK114.out 4).trans rfl; have hcz147_5 : w145.cell? ⟨gb114, 5, none⟩ = some (.int .i64 ((qk l0_1 a1).f5)) := (qb BK114.out 5).trans rfl; have hfz147_0 := qa BK114.out 0; have hfz147_1 := qa BK114.out 1; have hfz147_2 := qa BK114.out 2; have hfz147_3 := qa BK114.out 3; have hfz147_4 := qa BK114.out 4; have hfz147_5 := qa BK114.out 5) | (go_at_call 86; (with_reducible refine (mimesisref23_Value.calls _ _ l0_0 _ _ l0_1 _ _ l0_2 a0_3 ((qk l0_1 a1).f2) a1 true _ ?side1 ?side2 ?side3 ?side4 ?side5 ?side6 A139.out).mono ?_); (case side1 => repeat (first | exact (Kd.qn HR0_0.out HB.out) | (with_reducible refine Kd.qu ?_ _) | (with_reducible refine Kd.qv ?_ _) | (with_reducible refine Kd.qx ?_))); (case side2 => exact HC0_0.out); (case side3 => repeat (first | exact (Kd.qn HR0_1.out HB.out) | (with_reducible refine Kd.qu ?_ _) | (with_reducible refine Kd.qv ?_ _) | (with_reducible refine Kd.qx ?_))); (case side4 => exact HC0_1.out); (case side5 => repeat (first | exact (Kd.qn HR0_2.out HB.out) | (with_reducible refine Kd.qu ?_ _) | (with_reducible refine Kd.qv ?_ _) | (with_reducible refine Kd.qx ?_))); (case side6 => exact HC0_2.out); rintro e w148 ⟨rfl, hb⟩; have n0_ := Aside0.mk (qo (g := gb112) (o := .cells #[.slice A0_0 l0_0.length c0_0, .slice (some ad113) l0_1.length c0_1, .slice A0_2 l0_2.length c0_2, .int .i64 a0_3] 26 (0, 0)) (by (with_reducible repeat (first | refine qg ?_ _ | refine qi ?_ | refine qf ?_ _)); exact BK112.out) hb); have n1_ := Aside0.mk (qo (g := gb114) (o := .cells #[.int .i64 ((qk l0_1 a1).f0), .int .i64 ((qk l0_1 a1).f1), .int .i64 ((qk l0_1 a1).f2), .int .u32 ((qk l0_1 a1).f3), .int .i64 ((qk l0_1 a1).f4), .int .i64 ((qk l0_1 a1).f5)] 62 (0, 0)) (by (with_reducible repeat (first | refine qg ?_ _ | refine qi ?_ | refine qf ?_ _)); exact BK114.out) hb); have n2_ := Aside0.mk (qq (by repeat (first | (with_reducible first | exact HB.out | apply qe | apply qc | apply qd | refine qh ?_ GE112.out | refine qh ?_ GE114.out) | exact HB.out)) hb); clear BK112; clear BK114; clear HB; have BK112 := n0_; have BK114 := n1_; have HB := n2_; clear n0_ n1_ n2_; (try clear hb); (try clear hb2); (try clear hk); (try clear hi); have hcz149_0 : w148.cell? ⟨gb112, 0, none⟩ = some (.slice A0_0 l0_0.length c0_0) := (qb BK112.out 0).trans rfl; have hcz149_1 : w148.cell? ⟨gb112, 1, none⟩ = some (.slice (some ad113) l0_1.length c0_1) := (qb BK112.out 1).trans rfl; have hcz149_2 : w148.cell? ⟨gb112, 2, none⟩ = some (.slice A0_2 l0_2.length c0_2) := (qb BK112.out 2).trans rfl; have hcz149_3 : w148.cell? ⟨gb112, 3, none⟩ = some (.int .i64 a0_3) := (qb BK112.out 3).trans rfl; have hfz149_0 := qa BK112.out 0; have hfz149_1 := qa BK112.out 1; have hfz149_2 := qa BK112.out 2; have hfz149_3 := qa BK112.out 3; have hcz150_0 : w148.cell? ⟨gb114, 0, none⟩ = some (.int .i64 ((qk l0_1 a1).f0)) := (qb BK114.out 0).trans rfl; have hcz150_1 : w148.cell? ⟨gb114, 1, none⟩ = some (.int .i64 ((qk l0_1 a1).f1)) := (qb BK114.out 1).trans rfl; have hcz150_2 : w148.cell? ⟨gb114, 2, none⟩ = some (.int .i64 ((qk l0_1 a1).f2)) := (qb BK114.out 2).trans rfl; have hcz150_3 : w148.cell? ⟨gb114, 3, none⟩ = some (.int .u32 ((qk l0_1 a1).f3)) := (qb BK114.out 3).trans rfl; have hcz150_4 : w148.cell? ⟨gb114, 4, none⟩ = some (.int .i64 ((qk l0_1 a1).f4)) := (qb BK114.out 4).trans rfl; have hcz150_5 : w148.cell? ⟨gb114, 5, none⟩ = some (.int .i64 ((qk l0_1 a1).f5)) := (qb BK114.out 5).trans rfl; have hfz150_0 := qa BK114.out 0; have hfz150_1 := qa BK114.out 1; have hfz150_2 := qa BK114.out 2; have hfz150_3 := qa BK114.out 3; have hfz150_4 := qa BK114.out 4; have hfz150_5 := qa BK114.out 5) | (go_at_call 49; (with_reducible refine (mimesisref23_exit.calls kj4 _ _ l0_0 _ _ l0_1 _ _ l0_2 a0_3 ((qk l0_1 a1).f4) a1 t128 _ ?side1 ?side2 ?side3 ?side4 ?side5 ?side6 A141.out).mono ?_); (case side1 => repeat (first | exact (Kd.qn HR0_0.out HB.out) | (with_reducible refine Kd.qu ?_ _) | (with_reducible refine Kd.qv ?_ _) | (with_reducible refine Kd.qx ?_))); (case side2 => exact HC0_0.out); (case side3 => repeat (first | exact (Kd.qn HR0_1.out HB.out) | (with_reducible refine Kd.qu ?_ _) | (with_reducible refine Kd.qv ?_ _) | (with_reducible refine Kd.qx ?_))); (case side4 => exact HC0_1.out); (case side5 => repeat (first | exact (Kd.qn HR0_2.out HB.out) | (with_reducible refine Kd.qu ?_ _) | (with_reducible refine Kd.qv ?_ _) | (with_reducible refine Kd.qx ?_))); (case side6 => exact HC0_2.out); rintro e w151 ⟨rfl, hb⟩; have n0_ := Aside0.mk (qo (g := gb112) (o := .cells #[.slice A0_0 l0_0.length c0_0, .slice (some ad113) l0_1.length c0_1, .slice A0_2 l0_2.length c0_2, .int .i64 a0_3] 26 (0, 0)) (by (with_reducible repeat (first | refine qg ?_ _ | refine qi ?_ | refine qf ?_ _)); exact BK112.out) hb); have n1_ := Aside0.mk (qo (g := gb114) (o := .cells #[.int .i64 ((qk l0_1 a1).f0), .int .i64 ((qk l0_1 a1).f1), .int .i64 ((qk l0_1 a1).f2), .int .u32 ((qk l0_1 a1).f3), .int .i64 ((qk l0_1 a1).f4), .int .i64 ((qk l0_1 a1).f5)] 62 (0, 0)) (by (with_reducible repeat (first | refine qg ?_ _ | refine qi ?_ | refine qf ?_ _)); exact BK114.out) hb); have n2_ := Aside0.mk (qq (by repeat (first | (with_reducible first | exact HB.out | apply qe | apply qc | apply qd | refine qh ?_ GE112.out | refine qh ?_ GE114.out) | exact HB.out)) hb); clear BK112; clear BK114; clear HB; have BK112 := n0_; have BK114 := n1_; have HB := n2_; clear n0_ n1_ n2_; (try clear hb); (try clear hb2); (try clear hk); (try clear hi)))
                go_ret
                exact ⟨by first | rfl | (simp [ql, qm] <;> rfl) | (simp [*, ql, qm] <;> rfl), by repeat (first | (with_reducible first | exact HB.out | apply qe | apply qc | apply qd | refine qh ?_ GE112.out | refine qh ?_ GE114.out) | exact HB.out)⟩
               ·replace c140 := Bool.eq_false_iff.mpr c140
                subst c140
                have H1 : (some false) = some r := by rw [if_neg (show ¬ (false = true) by decide)] at H; exact H
                clear H
                have H := H1
                clear H1
                obtain rfl := Option.some.inj H
                have hnb152 := NB114_112.out
                have hnc152 := NB112_114.out
                have hcz153_0 : wc.cell? ⟨gb114, 0, none⟩ = some (.int .i64 ((qk l0_1 a1).f0)) := (qb BK114.out 0).trans rfl
                have hcz153_1 : wc.cell? ⟨gb114, 1, none⟩ = some (.int .i64 ((qk l0_1 a1).f1)) := (qb BK114.out 1).trans rfl
                have hcz153_2 : wc.cell? ⟨gb114, 2, none⟩ = some (.int .i64 ((qk l0_1 a1).f2)) := (qb BK114.out 2).trans rfl
                have hcz153_3 : wc.cell? ⟨gb114, 3, none⟩ = some (.int .u32 ((qk l0_1 a1).f3)) := (qb BK114.out 3).trans rfl
                have hcz153_4 : wc.cell? ⟨gb114, 4, none⟩ = some (.int .i64 ((qk l0_1 a1).f4)) := (qb BK114.out 4).trans rfl
                have hcz153_5 : wc.cell? ⟨gb114, 5, none⟩ = some (.int .i64 ((qk l0_1 a1).f5)) := (qb BK114.out 5).trans rfl
                have hfz153_0 := qa BK114.out 0
                have hfz153_1 := qa BK114.out 1
                have hfz153_2 := qa BK114.out 2
                have hfz153_3 := qa BK114.out 3
                have hfz153_4 := qa BK114.out 4
                have hfz153_5 := qa BK114.out 5
                have hcz154_0 : wc.cell? ⟨gb112, 0, none⟩ = some (.slice A0_0 l0_0.length c0_0) := (qb BK112.out 0).trans rfl
                have hcz154_1 : wc.cell? ⟨gb112, 1, none⟩ = some (.slice (some ad113) l0_1.length c0_1) := (qb BK112.out 1).trans rfl
                have hcz154_2 : wc.cell? ⟨gb112, 2, none⟩ = some (.slice A0_2 l0_2.length c0_2) := (qb BK112.out 2).trans rfl
                have hcz154_3 : wc.cell? ⟨gb112, 3, none⟩ = some (.int .i64 a0_3) := (qb BK112.out 3).trans rfl
                have hfz154_0 := qa BK112.out 0
                have hfz154_1 := qa BK112.out 1
                have hfz154_2 := qa BK112.out 2
                have hfz154_3 := qa BK112.out 3
                go_wp2_with (first | (go_at_call 86; (with_reducible refine (mimesisref23_Value.calls _ _ l0_0 _ _ l0_1 _ _ l0_2 a0_3 ((qk l0_1 a1).f1) a1 true _ ?side1 ?side2 ?side3 ?side4 ?side5 ?side6 A137.out).mono ?_); (case side1 => repeat (first | exact (Kd.qn HR0_0.out HB.out) | (with_reducible refine Kd.qu ?_ _) | (with_reducible refine Kd.qv ?_ _) | (with_reducible refine Kd.qx ?_))); (case side2 => exact HC0_0.out); (case side3 => repeat (first | exact (Kd.qn HR0_1.out HB.out) | (with_reducible refine Kd.qu ?_ _) | (with_reducible refine Kd.qv ?_ _) | (with_reducible refine Kd.qx ?_))); (case side4 => exact HC0_1.out); (case side5 => repeat (first | exact (Kd.qn HR0_2.out HB.out) | (with_reducible refine Kd.qu ?_ _) | (with_reducible refine Kd.qv ?_ _) | (with_reducible refine Kd.qx ?_))); (case side6 => exact HC0_2.out); rintro e w155 ⟨rfl, hb⟩; have n0_ := Aside0.mk (qo (g := gb112) (o := .cells #[.slice A0_0 l0_0.length c0_0, .slice (some ad113) l0_1.length c0_1, .slice A0_2 l0_2.length c0_2, .int .i64 a0_3] 26 (0, 0)) (by (with_reducible repeat (first | refine qg ?_ _ | refine qi ?_ | refine qf ?_ _)); exact BK112.out) hb); have n1_ := Aside0.mk (qo (g := gb114) (o := .cells #[.int .i64 ((qk l0_1 a1).f0), .int .i64 ((qk l0_1 a1).f1), .int .i64 ((qk l0_1 a1).f2), .int .u32 ((qk l0_1 a1).f3), .int .i64 ((qk l0_1 a1).f4), .int .i64 ((qk l0_1 a1).f5)] 62 (0, 0)) (by (with_reducible repeat (first | refine qg ?_ _ | refine qi ?_ | refine qf ?_ _)); exact BK114.out) hb); have n2_ := Aside0.mk (qq (by repeat (first | (with_reducible first | exact HB.out | apply qe | apply qc | apply qd | refine qh ?_ GE112.out | refine qh ?_ GE114.out) | exact HB.out)) hb); clear BK112; clear BK114; clear HB; have BK112 := n0_; have BK114 := n1_; have HB := n2_; clear n0_ n1_ n2_; (try clear hb); (try clear hb2); (try clear hk); (try clear hi); have hcz156_0 : w155.cell? ⟨gb112, 0, none⟩ = some (.slice A0_0 l0_0.length c0_0) := (qb BK112.out 0).trans rfl; have hcz156_1 : w155.cell? ⟨gb112, 1, none⟩ = some (.slice (some ad113) l0_1.length c0_1) := (qb BK112.out 1).trans rfl; have hcz156_2 : w155.cell? ⟨gb112, 2, none⟩ = some (.slice A0_2 l0_2.length c0_2) := (qb BK112.out 2).trans rfl; have hcz156_3 : w155.cell? ⟨gb112, 3, none⟩ = some (.int .i64 a0_3) := (qb BK112.out 3).trans rfl; have hfz156_0 := qa BK112.out 0; have hfz156_1 := qa BK112.out 1; have hfz156_2 := qa BK112.out 2; have hfz156_3 := qa BK112.out 3; have hcz157_0 : w155.cell? ⟨gb114, 0, none⟩ = some (.int .i64 ((qk l0_1 a1).f0)) := (qb BK114.out 0).trans rfl; have hcz157_1 : w155.cell? ⟨gb114, 1, none⟩ = some (.int .i64 ((qk l0_1 a1).f1)) := (qb BK114.out 1).trans rfl; have hcz157_2 : w155.cell? ⟨gb114, 2, none⟩ = some (.int .i64 ((qk l0_1 a1).f2)) := (qb BK114.out 2).trans rfl; have hcz157_3 : w155.cell? ⟨gb114, 3, none⟩ = some (.int .u32 ((qk l0_1 a1).f3)) := (qb BK114.out 3).trans rfl; have hcz157_4 : w155.cell? ⟨gb114, 4, none⟩ = some (.int .i64 ((qk l0_1 a1).f4)) := (qb BK114.out 4).trans rfl; have hcz157_5 : w155.cell? ⟨gb114, 5, none⟩ = some (.int .i64 ((qk l0_1 a1).f5)) := (qb BK114.out 5).trans rfl; have hfz157_0 := qa BK114.out 0; have hfz157_1 := qa BK114.out 1; have hfz157_2 := qa BK114.out 2; have hfz157_3 := qa BK114.out 3; have hfz157_4 := qa BK114.out 4; have hfz157_5 := qa BK114.out 5) | (go_at_call 86; (with_reducible refine (mimesisref23_Value.calls _ _ l0_0 _ _ l0_1 _ _ l0_2 a0_3 ((qk l0_1 a1).f2) a1 false _ ?side1 ?side2 ?side3 ?side4 ?side5 ?side6 A139.out).mono ?_); (case side1 => repeat (first | exact (Kd.qn HR0_0.out HB.out) | (with_reducible refine Kd.qu ?_ _) | (with_reducible refine Kd.qv ?_ _) | (with_reducible refine Kd.qx ?_))); (case side2 => exact HC0_0.out); (case side3 => repeat (first | exact (Kd.qn HR0_1.out HB.out) | (with_reducible refine Kd.qu ?_ _) | (with_reducible refine Kd.qv ?_ _) | (with_reducible refine Kd.qx ?_))); (case side4 => exact HC0_1.out); (case side5 => repeat (first | exact (Kd.qn HR0_2.out HB.out) | (with_reducible refine Kd.qu ?_ _) | (with_reducible refine Kd.qv ?_ _) | (with_reducible refine Kd.qx ?_))); (case side6 => exact HC0_2.out); rintro e w158 ⟨rfl, hb⟩; have n0_ := Aside0.mk (qo (g := gb112) (o := .cells #[.slice A0_0 l0_0.length c0_0, .slice (some ad113) l0_1.length c0_1, .slice A0_2 l0_2.length c0_2, .int .i64 a0_3] 26 (0, 0)) (by (with_reducible repeat (first | refine qg ?_ _ | refine qi ?_ | refine qf ?_ _)); exact BK112.out) hb); have n1_ := Aside0.mk (qo (g := gb114) (o := .cells #[.int .i64 ((qk l0_1 a1).f0), .int .i64 ((qk l0_1 a1).f1), .int .i64 ((qk l0_1 a1).f2), .int .u32 ((qk l0_1 a1).f3), .int .i64 ((qk l0_1 a1).f4), .int .i64 ((qk l0_1 a1).f5)] 62 (0, 0)) (by (with_reducible repeat (first | refine qg ?_ _ | refine qi ?_ | refine qf ?_ _)); exact BK114.out) hb); have n2_ := Aside0.mk (qq (by repeat (first | (with_reducible first | exact HB.out | apply qe | apply qc | apply qd | refine qh ?_ GE112.out | refine qh ?_ GE114.out) | exact HB.out)) hb); clear BK112; clear BK114; clear HB; have BK112 := n0_; have BK114 := n1_; have HB := n2_; clear n0_ n1_ n2_; (try clear hb); (try clear hb2); (try clear hk); (try clear hi)))
                go_ret
                exact ⟨by first | rfl | (simp [ql, qm] <;> rfl) | (simp [*, ql, qm] <;> rfl), by repeat (first | (with_reducible first | exact HB.out | apply qe | apply qc | apply qd | refine qh ?_ GE112.out | refine qh ?_ GE114.out) | exact HB.out)⟩
              ·replace c138 := Bool.eq_false_iff.mpr c138
               subst c138
               have H1 : (some false) = some r := by rw [if_neg (show ¬ (false = true) by decide)] at H; exact H
               clear H
               have H := H1
               clear H1
               obtain rfl := Option.some.inj H
               have hnb159 := NB114_112.out
               have hnc159 := NB112_114.out
               have hcz160_0 : wc.cell? ⟨gb114, 0, none⟩ = some (.int .i64 ((qk l0_1 a1).f0)) := (qb BK114.out 0).trans rfl
               have hcz160_1 : wc.cell? ⟨gb114, 1, none⟩ = some (.int .i64 ((qk l0_1 a1).f1)) := (qb BK114.out 1).trans rfl
               have hcz160_2 : wc.cell? ⟨gb114, 2, none⟩ = some (.int .i64 ((qk l0_1 a1).f2)) := (qb BK114.out 2).trans rfl
               have hcz160_3 : wc.cell? ⟨gb114, 3, none⟩ = some (.int .u32 ((qk l0_1 a1).f3)) := (qb BK114.out 3).trans rfl
               have hcz160_4 : wc.cell? ⟨gb114, 4, none⟩ = some (.int .i64 ((qk l0_1 a1).f4)) := (qb BK114.out 4).trans rfl
               have hcz160_5 : wc.cell? ⟨gb114, 5, none⟩ = some (.int .i64 ((qk l0_1 a1).f5)) := (qb BK114.out 5).trans rfl
               have hfz160_0 := qa BK114.out 0
               have hfz160_1 := qa BK114.out 1
               have hfz160_2 := qa BK114.out 2
               have hfz160_3 := qa BK114.out 3
               have hfz160_4 := qa BK114.out 4
               have hfz160_5 := qa BK114.out 5
               have hcz161_0 : wc.cell? ⟨gb112, 0, none⟩ = some (.slice A0_0 l0_0.length c0_0) := (qb BK112.out 0).trans rfl
               have hcz161_1 : wc.cell? ⟨gb112, 1, none⟩ = some (.slice (some ad113) l0_1.length c0_1) := (qb BK112.out 1).trans rfl
               have hcz161_2 : wc.cell? ⟨gb112, 2, none⟩ = some (.slice A0_2 l0_2.length c0_2) := (qb BK112.out 2).trans rfl
               have hcz161_3 : wc.cell? ⟨gb112, 3, none⟩ = some (.int .i64 a0_3) := (qb BK112.out 3).trans rfl
               have hfz161_0 := qa BK112.out 0
               have hfz161_1 := qa BK112.out 1
               have hfz161_2 := qa BK112.out 2
               have hfz161_3 := qa BK112.out 3
               go_wp2_with (first | (go_at_call 86; (with_reducible refine (mimesisref23_Value.calls _ _ l0_0 _ _ l0_1 _ _ l0_2 a0_3 ((qk l0_1 a1).f1) a1 false _ ?side1 ?side2 ?side3 ?side4 ?side5 ?side6 A137.out).mono ?_); (case side1 => repeat (first | exact (Kd.qn HR0_0.out HB.out) | (with_reducible refine Kd.qu ?_ _) | (with_reducible refine Kd.qv ?_ _) | (with_reducible refine Kd.qx ?_))); (case side2 => exact HC0_0.out); (case side3 => repeat (first | exact (Kd.qn HR0_1.out HB.out) | (with_reducible refine Kd.qu ?_ _) | (with_reducible refine Kd.qv ?_ _) | (with_reducible refine Kd.qx ?_))); (case side4 => exact HC0_1.out); (case side5 => repeat (first | exact (Kd.qn HR0_2.out HB.out) | (with_reducible refine Kd.qu ?_ _) | (with_reducible refine Kd.qv ?_ _) | (with_reducible refine Kd.qx ?_))); (case side6 => exact HC0_2.out); rintro e w162 ⟨rfl, hb⟩; have n0_ := Aside0.mk (qo (g := gb112) (o := .cells #[.slice A0_0 l0_0.length c0_0, .slice (some ad113) l0_1.length c0_1, .slice A0_2 l0_2.length c0_2, .int .i64 a0_3] 26 (0, 0)) (by (with_reducible repeat (first | refine qg ?_ _ | refine qi ?_ | refine qf ?_ _)); exact BK112.out) hb); have n1_ := Aside0.mk (qo (g := gb114) (o := .cells #[.int .i64 ((qk l0_1 a1).f0), .int .i64 ((qk l0_1 a1).f1), .int .i64 ((qk l0_1 a1).f2), .int .u32 ((qk l0_1 a1).f3), .int .i64 ((qk l0_1 a1).f4), .int .i64 ((qk l0_1 a1).f5)] 62 (0, 0)) (by (with_reducible repeat (first | refine qg ?_ _ | refine qi ?_ | refine qf ?_ _)); exact BK114.out) hb); have n2_ := Aside0.mk (qq (by repeat (first | (with_reducible first | exact HB.out | apply qe | apply qc | apply qd | refine qh ?_ GE112.out | refine qh ?_ GE114.out) | exact HB.out)) hb); clear BK112; clear BK114; clear HB; have BK112 := n0_; have BK114 := n1_; have HB := n2_; clear n0_ n1_ n2_; (try clear hb); (try clear hb2); (try clear hk); (try clear hi)))
               go_ret
               exact ⟨by first | rfl | (simp [ql, qm] <;> rfl) | (simp [*, ql, qm] <;> rfl), by repeat (first | (with_reducible first | exact HB.out | apply qe | apply qc | apply qd | refine qh ?_ GE112.out | refine qh ?_ GE114.out) | exact HB.out)⟩
             ·rw [if_neg c136] at H
              have c136b0 : (((qk l0_1 a1).f5) == 0) = false := beq_eq_false_iff_ne.mpr c136
              have c136b1 : (((qk l0_1 a1).f5) != 0) = true := bne_iff_ne.mpr c136
              obtain rfl := Option.some.inj H
              have hnb163 := NB114_112.out
              have hnc163 := NB112_114.out
              have hcz164_0 : wc.cell? ⟨gb114, 0, none⟩ = some (.int .i64 ((qk l0_1 a1).f0)) := (qb BK114.out 0).trans rfl
              have hcz164_1 : wc.cell? ⟨gb114, 1, none⟩ = some (.int .i64 ((qk l0_1 a1).f1)) := (qb BK114.out 1).trans rfl
              have hcz164_2 : wc.cell? ⟨gb114, 2, none⟩ = some (.int .i64 ((qk l0_1 a1).f2)) := (qb BK114.out 2).trans rfl
              have hcz164_3 : wc.cell? ⟨gb114, 3, none⟩ = some (.int .u32 ((qk l0_1 a1).f3)) := (qb BK114.out 3).trans rfl
              have hcz164_4 : wc.cell? ⟨gb114, 4, none⟩ = some (.int .i64 ((qk l0_1 a1).f4)) := (qb BK114.out 4).trans rfl
              have hcz164_5 : wc.cell? ⟨gb114, 5, none⟩ = some (.int .i64 ((qk l0_1 a1).f5)) := (qb BK114.out 5).trans rfl
              have hfz164_0 := qa BK114.out 0
              have hfz164_1 := qa BK114.out 1
              have hfz164_2 := qa BK114.out 2
              have hfz164_3 := qa BK114.out 3
              have hfz164_4 := qa BK114.out 4
              have hfz164_5 := qa BK114.out 5
              go_wp2
              go_ret
              exact ⟨by first | rfl | (simp [ql, qm] <;> rfl) | (simp [*, ql, qm] <;> rfl), by repeat (first | (with_reducible first | exact HB.out | apply qe | apply qc | apply qd | refine qh ?_ GE112.out | refine qh ?_ GE114.out) | exact HB.out)⟩
            ·rw [if_neg c135] at H
             have c135b0 : decide ((wrap64 ((qk l0_1 a1).f3)) ≤ 10) = false := decide_eq_false c135
             clear c135
             obtain rfl := Option.some.inj H
             have hnb165 := NB114_112.out
             have hnc165 := NB112_114.out
             have hcz166_0 : wc.cell? ⟨gb114, 0, none⟩ = some (.int .i64 ((qk l0_1 a1).f0)) := (qb BK114.out 0).trans rfl
             have hcz166_1 : wc.cell? ⟨gb114, 1, none⟩ = some (.int .i64 ((qk l0_1 a1).f1)) := (qb BK114.out 1).trans rfl
             have hcz166_2 : wc.cell? ⟨gb114, 2, none⟩ = some (.int .i64 ((qk l0_1 a1).f2)) := (qb BK114.out 2).trans rfl
             have hcz166_3 : wc.cell? ⟨gb114, 3, none⟩ = some (.int .u32 ((qk l0_1 a1).f3)) := (qb BK114.out 3).trans rfl
             have hcz166_4 : wc.cell? ⟨gb114, 4, none⟩ = some (.int .i64 ((qk l0_1 a1).f4)) := (qb BK114.out 4).trans rfl
             have hcz166_5 : wc.cell? ⟨gb114, 5, none⟩ = some (.int .i64 ((qk l0_1 a1).f5)) := (qb BK114.out 5).trans rfl
             have hfz166_0 := qa BK114.out 0
             have hfz166_1 := qa BK114.out 1
             have hfz166_2 := qa BK114.out 2
             have hfz166_3 := qa BK114.out 3
             have hfz166_4 := qa BK114.out 4
             have hfz166_5 := qa BK114.out 5
             go_wp2
             go_ret
             exact ⟨by first | rfl | (simp [ql, qm] <;> rfl) | (simp [*, ql, qm] <;> rfl), by repeat (first | (with_reducible first | exact HB.out | apply qe | apply qc | apply qd | refine qh ?_ GE112.out | refine qh ?_ GE114.out) | exact HB.out)⟩
           ·rw [if_neg c134] at H
            have c134b0 : decide (5 ≤ (wrap64 ((qk l0_1 a1).f3))) = false := decide_eq_false c134
            clear c134
            obtain rfl := Option.some.inj H
            have hnb167 := NB114_112.out
            have hnc167 := NB112_114.out
            have hcz168_0 : wc.cell? ⟨gb114, 0, none⟩ = some (.int .i64 ((qk l0_1 a1).f0)) := (qb BK114.out 0).trans rfl
            have hcz168_1 : wc.cell? ⟨gb114, 1, none⟩ = some (.int .i64 ((qk l0_1 a1).f1)) := (qb BK114.out 1).trans rfl
            have hcz168_2 : wc.cell? ⟨gb114, 2, none⟩ = some (.int .i64 ((qk l0_1 a1).f2)) := (qb BK114.out 2).trans rfl
            have hcz168_3 : wc.cell? ⟨gb114, 3, none⟩ = some (.int .u32 ((qk l0_1 a1).f3)) := (qb BK114.out 3).trans rfl
            have hcz168_4 : wc.cell? ⟨gb114, 4, none⟩ = some (.int .i64 ((qk l0_1 a1).f4)) := (qb BK114.out 4).trans rfl
            have hcz168_5 : wc.cell? ⟨gb114, 5, none⟩ = some (.int .i64 ((qk l0_1 a1).f5)) := (qb BK114.out 5).trans rfl
            have hfz168_0 := qa BK114.out 0
            have hfz168_1 := qa BK114.out 1
            have hfz168_2 := qa BK114.out 2
            have hfz168_3 := qa BK114.out 3
            have hfz168_4 := qa BK114.out 4
            have hfz168_5 := qa BK114.out 5
            go_wp2
            go_ret
            exact ⟨by first | rfl | (simp [ql, qm] <;> rfl) | (simp [*, ql, qm] <;> rfl), by repeat (first | (with_reducible first | exact HB.out | apply qe | apply qc | apply qd | refine qh ?_ GE112.out | refine qh ?_ GE114.out) | exact HB.out)⟩
          ·rw [if_neg c133] at H
           have c133b0 : (((qk l0_1 a1).f0) == 6) = false := beq_eq_false_iff_ne.mpr c133
           have c133b1 : (((qk l0_1 a1).f0) != 6) = true := bne_iff_ne.mpr c133
           obtain rfl := Option.some.inj H
           have hnb169 := NB114_112.out
           have hnc169 := NB112_114.out
           have hcz170_0 : wc.cell? ⟨gb114, 0, none⟩ = some (.int .i64 ((qk l0_1 a1).f0)) := (qb BK114.out 0).trans rfl
           have hcz170_1 : wc.cell? ⟨gb114, 1, none⟩ = some (.int .i64 ((qk l0_1 a1).f1)) := (qb BK114.out 1).trans rfl
           have hcz170_2 : wc.cell? ⟨gb114, 2, none⟩ = some (.int .i64 ((qk l0_1 a1).f2)) := (qb BK114.out 2).trans rfl
           have hcz170_3 : wc.cell? ⟨gb114, 3, none⟩ = some (.int .u32 ((qk l0_1 a1).f3)) := (qb BK114.out 3).trans rfl
           have hcz170_4 : wc.cell? ⟨gb114, 4, none⟩ = some (.int .i64 ((qk l0_1 a1).f4)) := (qb BK114.out 4).trans rfl
           have hcz170_5 : wc.cell? ⟨gb114, 5, none⟩ = some (.int .i64 ((qk l0_1 a1).f5)) := (qb BK114.out 5).trans rfl
           have hfz170_0 := qa BK114.out 0
           have hfz170_1 := qa BK114.out 1
           have hfz170_2 := qa BK114.out 2
           have hfz170_3 := qa BK114.out 3
           have hfz170_4 := qa BK114.out 4
           have hfz170_5 := qa BK114.out 5
           go_wp2
           go_ret
           exact ⟨by first | rfl | (simp [ql, qm] <;> rfl) | (simp [*, ql, qm] <;> rfl), by repeat (first | (with_reducible first | exact HB.out | apply qe | apply qc | apply qd | refine qh ?_ GE112.out | refine qh ?_ GE114.out) | exact HB.out)⟩
  ·rw [if_neg c4] at H
   exact absurd H (by simp)
 ·rw [if_neg c3] at H
  exact absurd H (by simp)

end Go.Proofs.Ythjgakoofmmloaa.PNumberDoes
