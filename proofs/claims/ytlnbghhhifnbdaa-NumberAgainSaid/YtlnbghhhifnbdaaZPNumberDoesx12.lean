/- Proved: contracts of single functions, and words for them, as the kit's print has printed them; names shortened. Conditions: those that each theorem names. -/
import Derived.Test.YtlnbghhhifnbdaaZPNumberDoesx0
import Derived.Test.YtlnbghhhifnbdaaZPNumberDoesx11
namespace Go.Proofs.Ytlnbghhhifnbdaa.PNumberDoes
open Go.RowKit Go.Proofs.YtlnbghhhifnbdaaW.PrintWords Go.Proofs.YtlnbghhhifnbdaaW.PrintLast Go.Proofs.YtlnbghhhifnbdaaW.PrintMore
attribute [local go_sem] max2_int min2_int max_two min_two qQ qR max_four min_four
set_option linter.unusedVariables false
set_option linter.unusedSimpArgs false

def mimesisref29_Alike.j0 : Nat → Bool → Int → Int → Int → Int → Int → Int → Int → Int → Int → Int → Int → Int → Option (Bool)
 | 0, _, _, _, _, _, _, _, _, _, _, _, _, _ => none
 | k + 1, x20, x216000, x216001, x216002, x216003, x216004, x216005, x217000, x217001, x217002, x217003, x217004, x217005 => if x20 = true then (some false) else (if x216000 ≤ 2 then (some (x216003 == x217003)) else (if x216000 = 4 then (if x216003 = x217003 then (some (x216001 == x217001)) else (some false)) else ((mimesisref28_Plain.f (wrap64 (x216003))).bind fun t217 => ((mimesisref28_Plain.f (wrap64 (x217003))).bind fun t218 => (if t217 = t218 then (if x216001 = x217001 then (if x216002 = x217002 then (some true) else ((mimesisref29_turns.f t217).bind fun t219 => (if t219 = true then (if x216001 = x217002 then (some (x216002 == x217001)) else (some false)) else (some false)))) else ((mimesisref29_turns.f t217).bind fun t220 => (if t220 = true then (if x216001 = x217002 then (some (x216002 == x217001)) else (some false)) else (some false)))) else (some false))))))
def mimesisref29_Alike.f (k : Nat) (a0_0 : Int) (a0_1 : Int) (a0_2 : Int) (a0_3 : Int) (a0_4 : Int) (a0_5 : Int) (a1_0 : Int) (a1_1 : Int) (a1_2 : Int) (a1_3 : Int) (a1_4 : Int) (a1_5 : Int) : Option (Bool) := if a0_0 = a1_0 then (if a0_0 < 1 then (mimesisref29_Alike.j0 k true a0_0 a0_1 a0_2 a0_3 a0_4 a0_5 a1_0 a1_1 a1_2 a1_3 a1_4 a1_5) else (mimesisref29_Alike.j0 k (decide (a0_0 > 4)) a0_0 a0_1 a0_2 a0_3 a0_4 a0_5 a1_0 a1_1 a1_2 a1_3 a1_4 a1_5)) else (mimesisref29_Alike.j0 k true a0_0 a0_1 a0_2 a0_3 a0_4 a0_5 a1_0 a1_1 a1_2 a1_3 a1_4 a1_5)
set_option maxHeartbeats 8000000 in
set_option maxRecDepth 100000 in
theorem mimesisref29_Alike.calls (k : Nat) (a0_0 : Int) (a0_1 : Int) (a0_2 : Int) (a0_3 : Int) (a0_4 : Int) (a0_5 : Int) (a1_0 : Int) (a1_1 : Int) (a1_2 : Int) (a1_3 : Int) (a1_4 : Int) (a1_5 : Int) (r : Bool) (w : World) (h : mimesisref29_Alike.f k a0_0 a0_1 a0_2 a0_3 a0_4 a0_5 a1_0 a1_1 a1_2 a1_3 a1_4 a1_5 = some r) :
  Calls Try.prog 30 #[.agg #[.int .i64 a0_0, .int .i64 a0_1, .int .i64 a0_2, .int .u32 a0_3, .int .i64 a0_4, .int .i64 a0_5], .agg #[.int .i64 a1_0, .int .i64 a1_1, .int .i64 a1_2, .int .u32 a1_3, .int .i64 a1_4, .int .i64 a1_5]] w fun e w' => e = .returned (.bool r) ∧ Below w.heap.size w w' := by
 have hu59 := Try.underlying59
 have HB := Aside0.mk (Below.refl w.heap.size w)
 have H : (if a0_0 = a1_0 then (if a0_0 < 1 then (mimesisref29_Alike.j0 k true a0_0 a0_1 a0_2 a0_3 a0_4 a0_5 a1_0 a1_1 a1_2 a1_3 a1_4 a1_5) else (mimesisref29_Alike.j0 k (decide (a0_0 > 4)) a0_0 a0_1 a0_2 a0_3 a0_4 a0_5 a1_0 a1_1 a1_2 a1_3 a1_4 a1_5)) else (mimesisref29_Alike.j0 k true a0_0 a0_1 a0_2 a0_3 a0_4 a0_5 a1_0 a1_1 a1_2 a1_3 a1_4 a1_5)) = some r := h
 clear h
 have HC3 := Aside0.mk H
 clear H
 go_enter Try.func30, Try.ntmps30
 go_upto_region 1 with (first | ((with_reducible refine qC (N := 2) rfl ?_); refine qA ?hg (N := 2) ?hd (cs := #[.int .i64 a0_0, .int .i64 a0_1, .int .i64 a0_2, .int .u32 a0_3, .int .i64 a0_4, .int .i64 a0_5]) (t := 59) ?hr ?_; (case hd => rfl); (case hg => rfl); (case hr => first | (go_simp; done) | (go_simp; rfl)); intro gb215 hg w4 hbox hb; have n0_ := Aside0.mk (qq (by repeat (first | (with_reducible first | exact HB.out | apply qf | apply qc | apply qe) | exact HB.out)) hb); have n1_ := Aside0.mk (hbox); have n2_ := Aside0.mk ((by rw [hg]; exact (qt (by repeat (first | (with_reducible first | exact HB.out | apply qf | apply qc | apply qe) | exact HB.out))) : w.heap.size ≤ gb215)); have n3_ := Aside0.mk ((by rw [hg]; exact (qt (by repeat (first | (with_reducible first | exact HB.out | apply qf | apply qc | apply qe) | exact HB.out))) : w.heap.size ≤ gb215)); clear HB; have HB := n0_; have BK215 := n1_; have GW215 := n2_; have GE215 := n3_; clear n0_ n1_ n2_ n3_; clear hb hbox hg) | ((with_reducible refine qC (N := 3) rfl ?_); refine qA ?hg (N := 3) ?hd (cs := #[.int .i64 a1_0, .int .i64 a1_1, .int .i64 a1_2, .int .u32 a1_3, .int .i64 a1_4, .int .i64 a1_5]) (t := 59) ?hr ?_; (case hd => rfl); (case hg => rfl); (case hr => first | (go_simp; done) | (go_simp; rfl)); intro gb216 hg w5 hbox hb; have n0_ := Aside0.mk (qo (g := gb215) (o := .cells #[.int .i64 a0_0, .int .i64 a0_1, .int .i64 a0_2, .int .u32 a0_3, .int .i64 a0_4, .int .i64 a0_5] 59 (0, 0)) (by (with_reducible repeat (first | refine qi ?_ _ | refine qk ?_ | refine qh ?_ _)); exact BK215.out) hb); have n1_ := Aside0.mk (qq (by repeat (first | (with_reducible first | exact HB.out | apply qf | apply qc | apply qe | refine qg ?_ GE215.out) | exact HB.out)) hb); have n2_ := Aside0.mk (hbox); have n3_ := Aside0.mk ((by rw [hg]; exact (qt (by repeat (first | (with_reducible first | exact HB.out | apply qf | apply qc | apply qe | refine qg ?_ GE215.out) | exact HB.out))) : w.heap.size ≤ gb216)); have n4_ := Aside0.mk ((by rw [hg]; exact (qt (by repeat (first | (with_reducible first | exact HB.out | apply qf | apply qc | apply qe | refine qg ?_ GE215.out) | exact HB.out))) : w.heap.size ≤ gb216)); have n5_ := Aside0.mk ((by rw [hg]; exact nne9 (qJ (g := gb215) (o := .cells #[.int .i64 a0_0, .int .i64 a0_1, .int .i64 a0_2, .int .u32 a0_3, .int .i64 a0_4, .int .i64 a0_5] 59 (0, 0)) (by (with_reducible repeat (first | refine qi ?_ _ | refine qk ?_ | refine qh ?_ _)); exact BK215.out)) : gb215 ≠ gb216)); have n6_ := Aside0.mk ((by rw [hg]; exact Nat.ne_of_gt (qJ (g := gb215) (o := .cells #[.int .i64 a0_0, .int .i64 a0_1, .int .i64 a0_2, .int .u32 a0_3, .int .i64 a0_4, .int .i64 a0_5] 59 (0, 0)) (by (with_reducible repeat (first | refine qi ?_ _ | refine qk ?_ | refine qh ?_ _)); exact BK215.out)) : gb216 ≠ gb215)); clear BK215; clear HB; have BK215 := n0_; have HB := n1_; have BK216 := n2_; have GW216 := n3_; have GE216 := n4_; have NB215_216 := n5_; have NB216_215 := n6_; clear n0_ n1_ n2_ n3_ n4_ n5_ n6_; clear hb hbox hg))
 (try simp only [Act.put, List.setIfInBounds_toArray, List.set_cons_zero, List.set_cons_succ])
 go_cut [20] (fun v20 wc => ∃ (kq : Nat) (x20_2 : Bool), v20 = .bool x20_2 ∧ Aside0 (mimesisref29_Alike.j0 kq x20_2 a0_0 a0_1 a0_2 a0_3 a0_4 a0_5 a1_0 a1_1 a1_2 a1_3 a1_4 a1_5 = some r) ∧ Aside0 (kq ≤ k) ∧ Aside0 (wc.heap[gb215]? = some (.cells #[.int .i64 a0_0, .int .i64 a0_1, .int .i64 a0_2, .int .u32 a0_3, .int .i64 a0_4, .int .i64 a0_5] 59 (0, 0))) ∧ Aside0 (wc.heap[gb216]? = some (.cells #[.int .i64 a1_0, .int .i64 a1_1, .int .i64 a1_2, .int .u32 a1_3, .int .i64 a1_4, .int .i64 a1_5] 59 (0, 0))) ∧ Aside0 (Below w.heap.size w wc))
 case first =>
  have H := HC3.out
  clear HC3
  by_cases c6 : a0_0 = a1_0
  ·rw [if_pos c6] at H
   have c6b0 : (a0_0 == a1_0) = true := beq_iff_eq.mpr c6
   have c6b1 : (a0_0 != a1_0) = false := bne_eq_false_iff_eq.mpr c6
   clear c6
   (first | rw [c6b0] | (simp only [i64_w, i32_w]; rw [c6b0]) | skip)
   by_cases c7 : a0_0 < 1
   ·rw [if_pos c7] at H
    have c7b0 : decide (a0_0 < 1) = true := decide_eq_true c7
    clear c7
    have H' := Aside0.mk H
    clear H
    have hnb8 := NB215_216.out
    have hnc8 := NB216_215.out
    have hcz9_0 : w5.cell? ⟨gb215, 0, none⟩ = some (.int .i64 a0_0) := (qb BK215.out 0).trans rfl
    have hcz9_1 : w5.cell? ⟨gb215, 1, none⟩ = some (.int .i64 a0_1) := (qb BK215.out 1).trans rfl
    have hcz9_2 : w5.cell? ⟨gb215, 2, none⟩ = some (.int .i64 a0_2) := (qb BK215.out 2).trans rfl
    have hcz9_3 : w5.cell? ⟨gb215, 3, none⟩ = some (.int .u32 a0_3) := (qb BK215.out 3).trans rfl
    have hcz9_4 : w5.cell? ⟨gb215, 4, none⟩ = some (.int .i64 a0_4) := (qb BK215.out 4).trans rfl
    have hcz9_5 : w5.cell? ⟨gb215, 5, none⟩ = some (.int .i64 a0_5) := (qb BK215.out 5).trans rfl
    have hfz9_0 := qa BK215.out 0
    have hfz9_1 := qa BK215.out 1
    have hfz9_2 := qa BK215.out 2
    have hfz9_3 := qa BK215.out 3
    have hfz9_4 := qa BK215.out 4
    have hfz9_5 := qa BK215.out 5
    have hcz10_0 : w5.cell? ⟨gb216, 0, none⟩ = some (.int .i64 a1_0) := (qb BK216.out 0).trans rfl
    have hcz10_1 : w5.cell? ⟨gb216, 1, none⟩ = some (.int .i64 a1_1) := (qb BK216.out 1).trans rfl
    have hcz10_2 : w5.cell? ⟨gb216, 2, none⟩ = some (.int .i64 a1_2) := (qb BK216.out 2).trans rfl
    have hcz10_3 : w5.cell? ⟨gb216, 3, none⟩ = some (.int .u32 a1_3) := (qb BK216.out 3).trans rfl
    have hcz10_4 : w5.cell? ⟨gb216, 4, none⟩ = some (.int .i64 a1_4) := (qb BK216.out 4).trans rfl
    have hcz10_5 : w5.cell? ⟨gb216, 5, none⟩ = some (.int .i64 a1_5) := (qb BK216.out 5).trans rfl
    have hfz10_0 := qa BK216.out 0
    have hfz10_1 := qa BK216.out 1
    have hfz10_2 := qa BK216.out 2
    have hfz10_3 := qa BK216.out 3
    have hfz10_4 := qa BK216.out 4
    have hfz10_5 := qa BK216.out 5
    go_wp2
    go_meet
    case rel => exact ⟨_, (true), (by first | rfl | (simp; done) | (simp [*]; done)), H', ⟨by first | omega | exact Nat.le_refl _⟩, ⟨by (with_reducible repeat (first | refine qi ?_ _ | refine qk ?_ | refine qh ?_ _)); exact BK215.out⟩, ⟨by (with_reducible repeat (first | refine qi ?_ _ | refine qk ?_ | refine qh ?_ _)); exact BK216.out⟩, ⟨by repeat (first | (with_reducible first | exact HB.out | apply qf | apply qc | apply qe | refine qg ?_ GE215.out | refine qg ?_ GE216.out) | exact HB.out)⟩⟩
   ·rw [if_neg c7] at H
    have c7b0 : decide (a0_0 < 1) = false := decide_eq_false c7
    clear c7
    have H' := Aside0.mk H
    clear H
    have hnb11 := NB215_216.out
    have hnc11 := NB216_215.out
    have hcz12_0 : w5.cell? ⟨gb215, 0, none⟩ = some (.int .i64 a0_0) := (qb BK215.out 0).trans rfl
    have hcz12_1 : w5.cell? ⟨gb215, 1, none⟩ = some (.int .i64 a0_1) := (qb BK215.out 1).trans rfl
    have hcz12_2 : w5.cell? ⟨gb215, 2, none⟩ = some (.int .i64 a0_2) := (qb BK215.out 2).trans rfl
    have hcz12_3 : w5.cell? ⟨gb215, 3, none⟩ = some (.int .u32 a0_3) := (qb BK215.out 3).trans rfl
    have hcz12_4 : w5.cell? ⟨gb215, 4, none⟩ = some (.int .i64 a0_4) := (qb BK215.out 4).trans rfl
    have hcz12_5 : w5.cell? ⟨gb215, 5, none⟩ = some (.int .i64 a0_5) := (qb BK215.out 5).trans rfl
    have hfz12_0 := qa BK215.out 0
    have hfz12_1 := qa BK215.out 1
    have hfz12_2 := qa BK215.out 2
    have hfz12_3 := qa BK215.out 3
    have hfz12_4 := qa BK215.out 4
    have hfz12_5 := qa BK215.out 5
    have hcz13_0 : w5.cell? ⟨gb216, 0, none⟩ = some (.int .i64 a1_0) := (qb BK216.out 0).trans rfl
    have hcz13_1 : w5.cell? ⟨gb216, 1, none⟩ = some (.int .i64 a1_1) := (qb BK216.out 1).trans rfl
    have hcz13_2 : w5.cell? ⟨gb216, 2, none⟩ = some (.int .i64 a1_2) := (qb BK216.out 2).trans rfl
    have hcz13_3 : w5.cell? ⟨gb216, 3, none⟩ = some (.int .u32 a1_3) := (qb BK216.out 3).trans rfl
    have hcz13_4 : w5.cell? ⟨gb216, 4, none⟩ = some (.int .i64 a1_4) := (qb BK216.out 4).trans rfl
    have hcz13_5 : w5.cell? ⟨gb216, 5, none⟩ = some (.int .i64 a1_5) := (qb BK216.out 5).trans rfl
    have hfz13_0 := qa BK216.out 0
    have hfz13_1 := qa BK216.out 1
    have hfz13_2 := qa BK216.out 2
    have hfz13_3 := qa BK216.out 3
    have hfz13_4 := qa BK216.out 4
    have hfz13_5 := qa BK216.out 5
    go_wp2
    go_meet
    case rel => exact ⟨_, (decide (a0_0 > 4)), (by first | rfl | (simp; done) | (simp [*]; done)), H', ⟨by first | omega | exact Nat.le_refl _⟩, ⟨by (with_reducible repeat (first | refine qi ?_ _ | refine qk ?_ | refine qh ?_ _)); exact BK215.out⟩, ⟨by (with_reducible repeat (first | refine qi ?_ _ | refine qk ?_ | refine qh ?_ _)); exact BK216.out⟩, ⟨by repeat (first | (with_reducible first | exact HB.out | apply qf | apply qc | apply qe | refine qg ?_ GE215.out | refine qg ?_ GE216.out) | exact HB.out)⟩⟩
  ·rw [if_neg c6] at H
   have c6b0 : (a0_0 == a1_0) = false := beq_eq_false_iff_ne.mpr c6
   have c6b1 : (a0_0 != a1_0) = true := bne_iff_ne.mpr c6
   (first | rw [c6b0] | (simp only [i64_w, i32_w]; rw [c6b0]) | skip)
   have H' := Aside0.mk H
   clear H
   have hnb14 := NB215_216.out
   have hnc14 := NB216_215.out
   have hcz15_0 : w5.cell? ⟨gb215, 0, none⟩ = some (.int .i64 a0_0) := (qb BK215.out 0).trans rfl
   have hcz15_1 : w5.cell? ⟨gb215, 1, none⟩ = some (.int .i64 a0_1) := (qb BK215.out 1).trans rfl
   have hcz15_2 : w5.cell? ⟨gb215, 2, none⟩ = some (.int .i64 a0_2) := (qb BK215.out 2).trans rfl
   have hcz15_3 : w5.cell? ⟨gb215, 3, none⟩ = some (.int .u32 a0_3) := (qb BK215.out 3).trans rfl
   have hcz15_4 : w5.cell? ⟨gb215, 4, none⟩ = some (.int .i64 a0_4) := (qb BK215.out 4).trans rfl
   have hcz15_5 : w5.cell? ⟨gb215, 5, none⟩ = some (.int .i64 a0_5) := (qb BK215.out 5).trans rfl
   have hfz15_0 := qa BK215.out 0
   have hfz15_1 := qa BK215.out 1
   have hfz15_2 := qa BK215.out 2
   have hfz15_3 := qa BK215.out 3
   have hfz15_4 := qa BK215.out 4
   have hfz15_5 := qa BK215.out 5
   have hcz16_0 : w5.cell? ⟨gb216, 0, none⟩ = some (.int .i64 a1_0) := (qb BK216.out 0).trans rfl
   have hcz16_1 : w5.cell? ⟨gb216, 1, none⟩ = some (.int .i64 a1_1) := (qb BK216.out 1).trans rfl
   have hcz16_2 : w5.cell? ⟨gb216, 2, none⟩ = some (.int .i64 a1_2) := (qb BK216.out 2).trans rfl
   have hcz16_3 : w5.cell? ⟨gb216, 3, none⟩ = some (.int .u32 a1_3) := (qb BK216.out 3).trans rfl
   have hcz16_4 : w5.cell? ⟨gb216, 4, none⟩ = some (.int .i64 a1_4) := (qb BK216.out 4).trans rfl
   have hcz16_5 : w5.cell? ⟨gb216, 5, none⟩ = some (.int .i64 a1_5) := (qb BK216.out 5).trans rfl
   have hfz16_0 := qa BK216.out 0
   have hfz16_1 := qa BK216.out 1
   have hfz16_2 := qa BK216.out 2
   have hfz16_3 := qa BK216.out 3
   have hfz16_4 := qa BK216.out 4
   have hfz16_5 := qa BK216.out 5
   go_wp2
   go_meet
   case rel => exact ⟨_, (true), (by first | rfl | (simp; done) | (simp [*]; done)), H', ⟨by first | omega | exact Nat.le_refl _⟩, ⟨by (with_reducible repeat (first | refine qi ?_ _ | refine qk ?_ | refine qh ?_ _)); exact BK215.out⟩, ⟨by (with_reducible repeat (first | refine qi ?_ _ | refine qk ?_ | refine qh ?_ _)); exact BK216.out⟩, ⟨by repeat (first | (with_reducible first | exact HB.out | apply qf | apply qc | apply qe | refine qg ?_ GE215.out | refine qg ?_ GE216.out) | exact HB.out)⟩⟩
 case rest =>
  clear HC3
  try clear c1
  try clear p2
  try clear c3
  try clear c6
  try clear c6b0
  try clear c6b1
  try clear c7
  try clear c7b0
  try clear c8
  try clear c11
  try clear c14
  try clear hcz10_0
  try clear hcz10_1
  try clear hcz10_2
  try clear hcz10_3
  try clear hcz10_4
  try clear hcz10_5
  try clear hcz12_0
  try clear hcz12_1
  try clear hcz12_2
  try clear hcz12_3
  try clear hcz12_4
  try clear hcz12_5
  try clear hcz13_0
  try clear hcz13_1
  try clear hcz13_2
  try clear hcz13_3
  try clear hcz13_4
  try clear hcz13_5
  try clear hcz15_0
  try clear hcz15_1
  try clear hcz15_2
  try clear hcz15_3
  try clear hcz15_4
  try clear hcz15_5
  try clear hcz16_0
  try clear hcz16_1
  try clear hcz16_2
  try clear hcz16_3
  try clear hcz16_4
  try clear hcz16_5
  try clear hcz9_0
  try clear hcz9_1
  try clear hcz9_2
  try clear hcz9_3
  try clear hcz9_4
  try clear hcz9_5
  try clear hfz10_0
  try clear hfz10_1
  try clear hfz10_2
  try clear hfz10_3
  try clear hfz10_4
  try clear hfz10_5
  try clear hfz12_0
  try clear hfz12_1
  try clear hfz12_2
  try clear hfz12_3
  try clear hfz12_4
  try clear hfz12_5
  try clear hfz13_0
  try clear hfz13_1
  try clear hfz13_2
  try clear hfz13_3
  try clear hfz13_4
  try clear hfz13_5
  try clear hfz15_0
  try clear hfz15_1
  try clear hfz15_2
  try clear hfz15_3
  try clear hfz15_4
  try clear hfz15_5
  try clear hfz16_0
  try clear hfz16_1
  try clear hfz16_2
  try clear hfz16_3
  try clear hfz16_4
  try clear hfz16_5
  try clear hfz9_0
  try clear hfz9_1
  try clear hfz9_2
  try clear hfz9_3
  try clear hfz9_4
  try clear hfz9_5
  obtain ⟨kq, x20_2, rfl, HA, HJ2, BK215, BK216, HB⟩ := hcut
  cases kq with
  | zero => exact absurd HA.out (by simp [mimesisref29_Alike.j0])
  | succ kj2 =>
   have H := HA.out
   clear HA
   simp only [mimesisref29_Alike.j0] at H
   by_cases c17 : x20_2 = true
   ·subst c17
    have H1 : (some false) = some r := by rw [if_pos rfl] at H; exact H
    clear H
    have H := H1
    clear H1
    obtain rfl := Option.some.inj H
    go_wp2
    go_ret
    exact ⟨by first | rfl | (simp [qm, qn] <;> rfl) | (simp [*, qm, qn] <;> rfl), by repeat (first | (with_reducible first | exact HB.out | apply qf | apply qc | apply qe | refine qg ?_ GE215.out | refine qg ?_ GE216.out) | exact HB.out)⟩
   ·replace c17 := Bool.eq_false_iff.mpr c17
    subst c17
    have H1 : (if a0_0 ≤ 2 then (some (a0_3 == a1_3)) else (if a0_0 = 4 then (if a0_3 = a1_3 then (some (a0_1 == a1_1)) else (some false)) else ((mimesisref28_Plain.f (wrap64 (a0_3))).bind fun t217 => ((mimesisref28_Plain.f (wrap64 (a1_3))).bind fun t218 => (if t217 = t218 then (if a0_1 = a1_1 then (if a0_2 = a1_2 then (some true) else ((mimesisref29_turns.f t217).bind fun t219 => (if t219 = true then (if a0_1 = a1_2 then (some (a0_2 == a1_1)) else (some false)) else (some false)))) else ((mimesisref29_turns.f t217).bind fun t220 => (if t220 = true then (if a0_1 = a1_2 then (some (a0_2 == a1_1)) else (some false)) else (some false)))) else (some false)))))) = some r := by rw [if_neg (show ¬ (false = true) by decide)] at H; exact H
    clear H
    have H := H1
    clear H1
    by_cases c18 : a0_0 ≤ 2
    ·rw [if_pos c18] at H
     have c18b0 : decide (a0_0 ≤ 2) = true := decide_eq_true c18
     clear c18
     obtain rfl := Option.some.inj H
     have hnb19 := NB215_216.out
     have hnc19 := NB216_215.out
     have hcz20_0 : wc.cell? ⟨gb215, 0, none⟩ = some (.int .i64 a0_0) := (qb BK215.out 0).trans rfl
     have hcz20_1 : wc.cell? ⟨gb215, 1, none⟩ = some (.int .i64 a0_1) := (qb BK215.out 1).trans rfl
     have hcz20_2 : wc.cell? ⟨gb215, 2, none⟩ = some (.int .i64 a0_2) := (qb BK215.out 2).trans rfl
     have hcz20_3 : wc.cell? ⟨gb215, 3, none⟩ = some (.int .u32 a0_3) := (qb BK215.out 3).trans rfl
     have hcz20_4 : wc.cell? ⟨gb215, 4, none⟩ = some (.int .i64 a0_4) := (qb BK215.out 4).trans rfl
     have hcz20_5 : wc.cell? ⟨gb215, 5, none⟩ = some (.int .i64 a0_5) := (qb BK215.out 5).trans rfl
     have hfz20_0 := qa BK215.out 0
     have hfz20_1 := qa BK215.out 1
     have hfz20_2 := qa BK215.out 2
     have hfz20_3 := qa BK215.out 3
     have hfz20_4 := qa BK215.out 4
     have hfz20_5 := qa BK215.out 5
     have hcz21_0 : wc.cell? ⟨gb216, 0, none⟩ = some (.int .i64 a1_0) := (qb BK216.out 0).trans rfl
     have hcz21_1 : wc.cell? ⟨gb216, 1, none⟩ = some (.int .i64 a1_1) := (qb BK216.out 1).trans rfl
     have hcz21_2 : wc.cell? ⟨gb216, 2, none⟩ = some (.int .i64 a1_2) := (qb BK216.out 2).trans rfl
     have hcz21_3 : wc.cell? ⟨gb216, 3, none⟩ = some (.int .u32 a1_3) := (qb BK216.out 3).trans rfl
     have hcz21_4 : wc.cell? ⟨gb216, 4, none⟩ = some (.int .i64 a1_4) := (qb BK216.out 4).trans rfl
     have hcz21_5 : wc.cell? ⟨gb216, 5, none⟩ = some (.int .i64 a1_5) := (qb BK216.out 5).trans rfl
     have hfz21_0 := qa BK216.out 0
     have hfz21_1 := qa BK216.out 1
     have hfz21_2 := qa BK216.out 2
     have hfz21_3 := qa BK216.out 3
     have hfz21_4 := qa BK216.out 4
     have hfz21_5 := qa BK216.out 5
     go_wp2
     go_ret
     exact ⟨by first | rfl | (simp [qm, qn] <;> rfl) | (simp [*, qm, qn] <;> rfl), by repeat (first | (with_reducible first | exact HB.out | apply qf | apply qc | apply qe | refine qg ?_ GE215.out | refine qg ?_ GE216.out) | exact HB.out)⟩
    ·rw [if_neg c18] at H
     have c18b0 : decide (a0_0 ≤ 2) = false := decide_eq_false c18
     clear c18
     by_cases c22 : a0_0 = 4
     ·rw [if_pos c22] at H
      have c22b0 : (a0_0 == 4) = true := beq_iff_eq.mpr c22
      have c22b1 : (a0_0 != 4) = false := bne_eq_false_iff_eq.mpr c22
      clear c22
      by_cases c23 : a0_3 = a1_3
      ·rw [if_pos c23] at H
       have c23b0 : (a0_3 == a1_3) = true := beq_iff_eq.mpr c23
       have c23b1 : (a0_3 != a1_3) = false := bne_eq_false_iff_eq.mpr c23
       clear c23
       obtain rfl := Option.some.inj H
       have hnb24 := NB215_216.out
       have hnc24 := NB216_215.out
       have hcz25_0 : wc.cell? ⟨gb215, 0, none⟩ = some (.int .i64 a0_0) := (qb BK215.out 0).trans rfl
       have hcz25_1 : wc.cell? ⟨gb215, 1, none⟩ = some (.int .i64 a0_1) := (qb BK215.out 1).trans rfl
       have hcz25_2 : wc.cell? ⟨gb215, 2, none⟩ = some (.int .i64 a0_2) := (qb BK215.out 2).trans rfl
       have hcz25_3 : wc.cell? ⟨gb215, 3, none⟩ = some (.int .u32 a0_3) := (qb BK215.out 3).trans rfl
       have hcz25_4 : wc.cell? ⟨gb215, 4, none⟩ = some (.int .i64 a0_4) := (qb BK215.out 4).trans rfl
       have hcz25_5 : wc.cell? ⟨gb215, 5, none⟩ = some (.int .i64 a0_5) := (qb BK215.out 5).trans rfl
       have hfz25_0 := qa BK215.out 0
       have hfz25_1 := qa BK215.out 1
       have hfz25_2 := qa BK215.out 2
       have hfz25_3 := qa BK215.out 3
       have hfz25_4 := qa BK215.out 4
       have hfz25_5 := qa BK215.out 5
       have hcz26_0 : wc.cell? ⟨gb216, 0, none⟩ = some (.int .i64 a1_0) := (qb BK216.out 0).trans rfl
       have hcz26_1 : wc.cell? ⟨gb216, 1, none⟩ = some (.int .i64 a1_1) := (qb BK216.out 1).trans rfl
       have hcz26_2 : wc.cell? ⟨gb216, 2, none⟩ = some (.int .i64 a1_2) := (qb BK216.out 2).trans rfl
       have hcz26_3 : wc.cell? ⟨gb216, 3, none⟩ = some (.int .u32 a1_3) := (qb BK216.out 3).trans rfl
       have hcz26_4 : wc.cell? ⟨gb216, 4, none⟩ = some (.int .i64 a1_4) := (qb BK216.out 4).trans rfl
       have hcz26_5 : wc.cell? ⟨gb216, 5, none⟩ = some (.int .i64 a1_5) := (qb BK216.out 5).trans rfl
       have hfz26_0 := qa BK216.out 0
       have hfz26_1 := qa BK216.out 1
       have hfz26_2 := qa BK216.out 2
       have hfz26_3 := qa BK216.out 3
       have hfz26_4 := qa BK216.out 4
       have hfz26_5 := qa BK216.out 5
       go_wp2
       go_ret
       exact ⟨by first | rfl | (simp [qm, qn] <;> rfl) | (simp [*, qm, qn] <;> rfl), by repeat (first | (with_reducible first | exact HB.out | apply qf | apply qc | apply qe | refine qg ?_ GE215.out | refine qg ?_ GE216.out) | exact HB.out)⟩
      ·rw [if_neg c23] at H
       have c23b0 : (a0_3 == a1_3) = false := beq_eq_false_iff_ne.mpr c23
       have c23b1 : (a0_3 != a1_3) = true := bne_iff_ne.mpr c23
       obtain rfl := Option.some.inj H
       have hnb27 := NB215_216.out
       have hnc27 := NB216_215.out
       have hcz28_0 : wc.cell? ⟨gb215, 0, none⟩ = some (.int .i64 a0_0) := (qb BK215.out 0).trans rfl
       have hcz28_1 : wc.cell? ⟨gb215, 1, none⟩ = some (.int .i64 a0_1) := (qb BK215.out 1).trans rfl
       have hcz28_2 : wc.cell? ⟨gb215, 2, none⟩ = some (.int .i64 a0_2) := (qb BK215.out 2).trans rfl
       have hcz28_3 : wc.cell? ⟨gb215, 3, none⟩ = some (.int .u32 a0_3) := (qb BK215.out 3).trans rfl
       have hcz28_4 : wc.cell? ⟨gb215, 4, none⟩ = some (.int .i64 a0_4) := (qb BK215.out 4).trans rfl
       have hcz28_5 : wc.cell? ⟨gb215, 5, none⟩ = some (.int .i64 a0_5) := (qb BK215.out 5).trans rfl
       have hfz28_0 := qa BK215.out 0
       have hfz28_1 := qa BK215.out 1
       have hfz28_2 := qa BK215.out 2
       have hfz28_3 := qa BK215.out 3
       have hfz28_4 := qa BK215.out 4
       have hfz28_5 := qa BK215.out 5
       have hcz29_0 : wc.cell? ⟨gb216, 0, none⟩ = some (.int .i64 a1_0) := (qb BK216.out 0).trans rfl
       have hcz29_1 : wc.cell? ⟨gb216, 1, none⟩ = some (.int .i64 a1_1) := (qb BK216.out 1).trans rfl
       have hcz29_2 : wc.cell? ⟨gb216, 2, none⟩ = some (.int .i64 a1_2) := (qb BK216.out 2).trans rfl
       have hcz29_3 : wc.cell? ⟨gb216, 3, none⟩ = some (.int .u32 a1_3) := (qb BK216.out 3).trans rfl
       have hcz29_4 : wc.cell? ⟨gb216, 4, none⟩ = some (.int .i64 a1_4) := (qb BK216.out 4).trans rfl
       have hcz29_5 : wc.cell? ⟨gb216, 5, none⟩ = some (.int .i64 a1_5) := (qb BK216.out 5).trans rfl
       have hfz29_0 := qa BK216.out 0
       have hfz29_1 := qa BK216.out 1
       have hfz29_2 := qa BK216.out 2
       have hfz29_3 := qa BK216.out 3
       have hfz29_4 := qa BK216.out 4
       have hfz29_5 := qa BK216.out 5
       go_wp2
       go_ret
       exact ⟨by first | rfl | (simp [qm, qn] <;> rfl) | (simp [*, qm, qn] <;> rfl), by repeat (first | (with_reducible first | exact HB.out | apply qf | apply qc | apply qe | refine qg ?_ GE215.out | refine qg ?_ GE216.out) | exact HB.out)⟩
     ·rw [if_neg c22] at H
      have c22b0 : (a0_0 == 4) = false := beq_eq_false_iff_ne.mpr c22
      have c22b1 : (a0_0 != 4) = true := bne_iff_ne.mpr c22
      replace H := Option.bind_eq_some_iff.mp H
      obtain ⟨t217, A300, H⟩ := H
      replace H : ((mimesisref28_Plain.f (wrap64 (a1_3))).bind fun t218 => (if t217 = t218 then (if a0_1 = a1_1 then (if a0_2 = a1_2 then (some true) else ((mimesisref29_turns.f t217).bind fun t219 => (if t219 = true then (if a0_1 = a1_2 then (some (a0_2 == a1_1)) else (some false)) else (some false)))) else ((mimesisref29_turns.f t217).bind fun t220 => (if t220 = true then (if a0_1 = a1_2 then (some (a0_2 == a1_1)) else (some false)) else (some false)))) else (some false))) = some r := H
      have A30 := Aside0.mk A300
      clear A300
      replace H := Option.bind_eq_some_iff.mp H
      obtain ⟨t218, A310, H⟩ := H
      replace H : (if t217 = t218 then (if a0_1 = a1_1 then (if a0_2 = a1_2 then (some true) else ((mimesisref29_turns.f t217).bind fun t219 => (if t219 = true then (if a0_1 = a1_2 then (some (a0_2 == a1_1)) else (some false)) else (some false)))) else ((mimesisref29_turns.f t217).bind fun t220 => (if t220 = true then (if a0_1 = a1_2 then (some (a0_2 == a1_1)) else (some false)) else (some false)))) else (some false)) = some r := H
      have A31 := Aside0.mk A310
      clear A310
      by_cases c32 : t217 = t218
      ·rw [if_pos c32] at H
       have c32b0 : (t217 == t218) = true := beq_iff_eq.mpr c32
       have c32b1 : (t217 != t218) = false := bne_eq_false_iff_eq.mpr c32
       clear c32
       by_cases c33 : a0_1 = a1_1
       ·rw [if_pos c33] at H
        have c33b0 : (a0_1 == a1_1) = true := beq_iff_eq.mpr c33
        have c33b1 : (a0_1 != a1_1) = false := bne_eq_false_iff_eq.mpr c33
        clear c33
        by_cases c34 : a0_2 = a1_2
        ·rw [if_pos c34] at H
         have c34b0 : (a0_2 == a1_2) = true := beq_iff_eq.mpr c34
         have c34b1 : (a0_2 != a1_2) = false := bne_eq_false_iff_eq.mpr c34
         clear c34
         obtain rfl := Option.some.inj H
         have hnb35 := NB215_216.out
         have hnc35 := NB216_215.out
         have hcz36_0 : wc.cell? ⟨gb215, 0, none⟩ = some (.int .i64 a0_0) := (qb BK215.out 0).trans rfl
         have hcz36_1 : wc.cell? ⟨gb215, 1, none⟩ = some (.int .i64 a0_1) := (qb BK215.out 1).trans rfl
         have hcz36_2 : wc.cell? ⟨gb215, 2, none⟩ = some (.int .i64 a0_2) := (qb BK215.out 2).trans rfl
         have hcz36_3 : wc.cell? ⟨gb215, 3, none⟩ = some (.int .u32 a0_3) := (qb BK215.out 3).trans rfl
         have hcz36_4 : wc.cell? ⟨gb215, 4, none⟩ = some (.int .i64 a0_4) := (qb BK215.out 4).trans rfl
         have hcz36_5 : wc.cell? ⟨gb215, 5, none⟩ = some (.int .i64 a0_5) := (qb BK215.out 5).trans rfl
         have hfz36_0 := qa BK215.out 0
         have hfz36_1 := qa BK215.out 1
         have hfz36_2 := qa BK215.out 2
         have hfz36_3 := qa BK215.out 3
         have hfz36_4 := qa BK215.out 4
         have hfz36_5 := qa BK215.out 5
         go_wp2_with (first | ((with_reducible refine qw (f := 65) rfl ?_); refine qE (some 47) rfl rfl Try.func65 (by kernel_rfl) rfl #[.int .i64 (wrap64 (a0_3))] rfl (by (try simp only [List.map_toArray, List.map_cons, List.map_nil]); first | done | rfl | (simp only [List.length_drop, List.length_take]; rfl)) ?_; (with_reducible refine (mimesisref28_Plain.calls (wrap64 (a0_3)) t217 _ A30.out).mono ?_); rintro e w37 ⟨rfl, hb⟩; refine ⟨_, rfl, ?_⟩; have n0_ := Aside0.mk (qo (g := gb215) (o := .cells #[.int .i64 a0_0, .int .i64 a0_1, .int .i64 a0_2, .int .u32 a0_3, .int .i64 a0_4, .int .i64 a0_5] 59 (0, 0)) (by (with_reducible repeat (first | refine qi ?_ _ | refine qk ?_ | refine qh ?_ _)); exact BK215.out) hb); have n1_ := Aside0.mk (qo (g := gb216) (o := .cells #[.int .i64 a1_0, .int .i64 a1_1, .int .i64 a1_2, .int .u32 a1_3, .int .i64 a1_4, .int .i64 a1_5] 59 (0, 0)) (by (with_reducible repeat (first | refine qi ?_ _ | refine qk ?_ | refine qh ?_ _)); exact BK216.out) hb); have n2_ := Aside0.mk (qq (by repeat (first | (with_reducible first | exact HB.out | apply qf | apply qc | apply qe | refine qg ?_ GE215.out | refine qg ?_ GE216.out) | exact HB.out)) hb); clear BK215; clear BK216; clear HB; have BK215 := n0_; have BK216 := n1_; have HB := n2_; clear n0_ n1_ n2_; (try clear hb); (try clear hb2); (try clear hk); (try clear hi); have hcz38_0 : w37.cell? ⟨gb216, 0, none⟩ = some (.int .i64 a1_0) := (qb BK216.out 0).trans rfl; have hcz38_1 : w37.cell? ⟨gb216, 1, none⟩ = some (.int .i64 a1_1) := (qb BK216.out 1).trans rfl; have hcz38_2 : w37.cell? ⟨gb216, 2, none⟩ = some (.int .i64 a1_2) := (qb BK216.out 2).trans rfl; have hcz38_3 : w37.cell? ⟨gb216, 3, none⟩ = some (.int .u32 a1_3) := (qb BK216.out 3).trans rfl; have hcz38_4 : w37.cell? ⟨gb216, 4, none⟩ = some (.int .i64 a1_4) := (qb BK216.out 4).trans rfl; have hcz38_5 : w37.cell? ⟨gb216, 5, none⟩ = some (.int .i64 a1_5) := (qb BK216.out 5).trans rfl; have hfz38_0 := qa BK216.out 0; have hfz38_1 := qa BK216.out 1; have hfz38_2 := qa BK216.out 2; have hfz38_3 := qa BK216.out 3; have hfz38_4 := qa BK216.out 4; have hfz38_5 := qa BK216.out 5) | ((with_reducible refine qw (f := 65) rfl ?_); refine qE (some 52) rfl rfl Try.func65 (by kernel_rfl) rfl #[.int .i64 (wrap64 (a1_3))] rfl (by (try simp only [List.map_toArray, List.map_cons, List.map_nil]); first | done | rfl | (simp only [List.length_drop, List.length_take]; rfl)) ?_; (with_reducible refine (mimesisref28_Plain.calls (wrap64 (a1_3)) t218 _ A31.out).mono ?_); rintro e w39 ⟨rfl, hb⟩; refine ⟨_, rfl, ?_⟩; have n0_ := Aside0.mk (qo (g := gb215) (o := .cells #[.int .i64 a0_0, .int .i64 a0_1, .int .i64 a0_2, .int .u32 a0_3, .int .i64 a0_4, .int .i64 a0_5] 59 (0, 0)) (by (with_reducible repeat (first | refine qi ?_ _ | refine qk ?_ | refine qh ?_ _)); exact BK215.out) hb); have n1_ := Aside0.mk (qo (g := gb216) (o := .cells #[.int .i64 a1_0, .int .i64 a1_1, .int .i64 a1_2, .int .u32 a1_3, .int .i64 a1_4, .int .i64 a1_5] 59 (0, 0)) (by (with_reducible repeat (first | refine qi ?_ _ | refine qk ?_ | refine qh ?_ _)); exact BK216.out) hb); have n2_ := Aside0.mk (qq (by repeat (first | (with_reducible first | exact HB.out | apply qf | apply qc | apply qe | refine qg ?_ GE215.out | refine qg ?_ GE216.out) | exact HB.out)) hb); clear BK215; clear BK216; clear HB; have BK215 := n0_; have BK216 := n1_; have HB := n2_; clear n0_ n1_ n2_; (try clear hb); (try clear hb2); (try clear hk); (try clear hi); have hcz40_0 : w39.cell? ⟨gb215, 0, none⟩ = some (.int .i64 a0_0) := (qb BK215.out 0).trans rfl; have hcz40_1 : w39.cell? ⟨gb215, 1, none⟩ = some (.int .i64 a0_1) := (qb BK215.out 1).trans rfl; have hcz40_2 : w39.cell? ⟨gb215, 2, none⟩ = some (.int .i64 a0_2) := (qb BK215.out 2).trans rfl; have hcz40_3 : w39.cell? ⟨gb215, 3, none⟩ = some (.int .u32 a0_3) := (qb BK215.out 3).trans rfl; have hcz40_4 : w39.cell? ⟨gb215, 4, none⟩ = some (.int .i64 a0_4) := (qb BK215.out 4).trans rfl; have hcz40_5 : w39.cell? ⟨gb215, 5, none⟩ = some (.int .i64 a0_5) := (qb BK215.out 5).trans rfl; have hfz40_0 := qa BK215.out 0; have hfz40_1 := qa BK215.out 1; have hfz40_2 := qa BK215.out 2; have hfz40_3 := qa BK215.out 3; have hfz40_4 := qa BK215.out 4; have hfz40_5 := qa BK215.out 5; have hcz41_0 : w39.cell? ⟨gb216, 0, none⟩ = some (.int .i64 a1_0) := (qb BK216.out 0).trans rfl; have hcz41_1 : w39.cell? ⟨gb216, 1, none⟩ = some (.int .i64 a1_1) := (qb BK216.out 1).trans rfl; have hcz41_2 : w39.cell? ⟨gb216, 2, none⟩ = some (.int .i64 a1_2) := (qb BK216.out 2).trans rfl; have hcz41_3 : w39.cell? ⟨gb216, 3, none⟩ = some (.int .u32 a1_3) := (qb BK216.out 3).trans rfl; have hcz41_4 : w39.cell? ⟨gb216, 4, none⟩ = some (.int .i64 a1_4) := (qb BK216.out 4).trans rfl; have hcz41_5 : w39.cell? ⟨gb216, 5, none⟩ = some (.int .i64 a1_5) := (qb BK216.out 5).trans rfl; have hfz41_0 := qa BK216.out 0; have hfz41_1 := qa BK216.out 1; have hfz41_2 := qa BK216.out 2; have hfz41_3 := qa BK216.out 3; have hfz41_4 := qa BK216.out 4; have hfz41_5 := qa BK216.out 5))
         go_ret
         exact ⟨by first | rfl | (simp [qm, qn] <;> rfl) | (simp [*, qm, qn] <;> rfl), by repeat (first | (with_reducible first | exact HB.out | apply qf | apply qc | apply qe | refine qg ?_ GE215.out | refine qg ?_ GE216.out) | exact HB.out)⟩
        ·rw [if_neg c34] at H
         have c34b0 : (a0_2 == a1_2) = false := beq_eq_false_iff_ne.mpr c34
         have c34b1 : (a0_2 != a1_2) = true := bne_iff_ne.mpr c34
         replace H := Option.bind_eq_some_iff.mp H
         obtain ⟨t219, A420, H⟩ := H
         replace H : (if t219 = true then (if a0_1 = a1_2 then (some (a0_2 == a1_1)) else (some false)) else (some false)) = some r := H
         have A42 := Aside0.mk A420
         clear A420
         by_cases c43 : t219 = true
         ·subst c43
          have H1 : (if a0_1 = a1_2 then (some (a0_2 == a1_1)) else (some false)) = some r := by rw [if_pos rfl] at H; exact H
          clear H
          have H := H1
          clear H1
          by_cases c44 : a0_1 = a1_2
          ·rw [if_pos c44] at H
           have c44b0 : (a0_1 == a1_2) = true := beq_iff_eq.mpr c44
           have c44b1 : (a0_1 != a1_2) = false := bne_eq_false_iff_eq.mpr c44
           clear c44
           obtain rfl := Option.some.inj H
           have hnb45 := NB215_216.out
           have hnc45 := NB216_215.out
           have hcz46_0 : wc.cell? ⟨gb215, 0, none⟩ = some (.int .i64 a0_0) := (qb BK215.out 0).trans rfl
           have hcz46_1 : wc.cell? ⟨gb215, 1, none⟩ = some (.int .i64 a0_1) := (qb BK215.out 1).trans rfl
           have hcz46_2 : wc.cell? ⟨gb215, 2, none⟩ = some (.int .i64 a0_2) := (qb BK215.out 2).trans rfl
           have hcz46_3 : wc.cell? ⟨gb215, 3, none⟩ = some (.int .u32 a0_3) := (qb BK215.out 3).trans rfl
           have hcz46_4 : wc.cell? ⟨gb215, 4, none⟩ = some (.int .i64 a0_4) := (qb BK215.out 4).trans rfl
           have hcz46_5 : wc.cell? ⟨gb215, 5, none⟩ = some (.int .i64 a0_5) := (qb BK215.out 5).trans rfl
           have hfz46_0 := qa BK215.out 0
           have hfz46_1 := qa BK215.out 1
           have hfz46_2 := qa BK215.out 2
           have hfz46_3 := qa BK215.out 3
           have hfz46_4 := qa BK215.out 4
           have hfz46_5 := qa BK215.out 5
           go_wp2_with (first | ((with_reducible refine qw (f := 65) rfl ?_); refine qE (some 47) rfl rfl Try.func65 (by kernel_rfl) rfl #[.int .i64 (wrap64 (a0_3))] rfl (by (try simp only [List.map_toArray, List.map_cons, List.map_nil]); first | done | rfl | (simp only [List.length_drop, List.length_take]; rfl)) ?_; (with_reducible refine (mimesisref28_Plain.calls (wrap64 (a0_3)) t217 _ A30.out).mono ?_); rintro e w47 ⟨rfl, hb⟩; refine ⟨_, rfl, ?_⟩; have n0_ := Aside0.mk (qo (g := gb215) (o := .cells #[.int .i64 a0_0, .int .i64 a0_1, .int .i64 a0_2, .int .u32 a0_3, .int .i64 a0_4, .int .i64 a0_5] 59 (0, 0)) (by (with_reducible repeat (first | refine qi ?_ _ | refine qk ?_ | refine qh ?_ _)); exact BK215.out) hb); have n1_ := Aside0.mk (qo (g := gb216) (o := .cells #[.int .i64 a1_0, .int .i64 a1_1, .int .i64 a1_2, .int .u32 a1_3, .int .i64 a1_4, .int .i64 a1_5] 59 (0, 0)) (by (with_reducible repeat (first | refine qi ?_ _ | refine qk ?_ | refine qh ?_ _)); exact BK216.out) hb); have n2_ := Aside0.mk (qq (by repeat (first | (with_reducible first | exact HB.out | apply qf | apply qc | apply qe | refine qg ?_ GE215.out | refine qg ?_ GE216.out) | exact HB.out)) hb); clear BK215; clear BK216; clear HB; have BK215 := n0_; have BK216 := n1_; have HB := n2_; clear n0_ n1_ n2_; (try clear hb); (try clear hb2); (try clear hk); (try clear hi); have hcz48_0 : w47.cell? ⟨gb216, 0, none⟩ = some (.int .i64 a1_0) := (qb BK216.out 0).trans rfl; have hcz48_1 : w47.cell? ⟨gb216, 1, none⟩ = some (.int .i64 a1_1) := (qb BK216.out 1).trans rfl; have hcz48_2 : w47.cell? ⟨gb216, 2, none⟩ = some (.int .i64 a1_2) := (qb BK216.out 2).trans rfl; have hcz48_3 : w47.cell? ⟨gb216, 3, none⟩ = some (.int .u32 a1_3) := (qb BK216.out 3).trans rfl; have hcz48_4 : w47.cell? ⟨gb216, 4, none⟩ = some (.int .i64 a1_4) := (qb BK216.out 4).trans rfl; have hcz48_5 : w47.cell? ⟨gb216, 5, none⟩ = some (.int .i64 a1_5) := (qb BK216.out 5).trans rfl; have hfz48_0 := qa BK216.out 0; have hfz48_1 := qa BK216.out 1; have hfz48_2 := qa BK216.out 2; have hfz48_3 := qa BK216.out 3; have hfz48_4 := qa BK216.out 4; have hfz48_5 := qa BK216.out 5) | ((with_reducible refine qw (f := 65) rfl ?_); refine qE (some 52) rfl rfl Try.func65 (by kernel_rfl) rfl #[.int .i64 (wrap64 (a1_3))] rfl (by (try simp only [List.map_toArray, List.map_cons, List.map_nil]); first | done | rfl | (simp only [List.length_drop, List.length_take]; rfl)) ?_; (with_reducible refine (mimesisref28_Plain.calls (wrap64 (a1_3)) t218 _ A31.out).mono ?_); rintro e w49 ⟨rfl, hb⟩; refine ⟨_, rfl, ?_⟩; have n0_ := Aside0.mk (qo (g := gb215) (o := .cells #[.int .i64 a0_0, .int .i64 a0_1, .int .i64 a0_2, .int .u32 a0_3, .int .i64 a0_4, .int .i64 a0_5] 59 (0, 0)) (by (with_reducible repeat (first | refine qi ?_ _ | refine qk ?_ | refine qh ?_ _)); exact BK215.out) hb); have n1_ := Aside0.mk (qo (g := gb216) (o := .cells #[.int .i64 a1_0, .int .i64 a1_1, .int .i64 a1_2, .int .u32 a1_3, .int .i64 a1_4, .int .i64 a1_5] 59 (0, 0)) (by (with_reducible repeat (first | refine qi ?_ _ | refine qk ?_ | refine qh ?_ _)); exact BK216.out) hb); have n2_ := Aside0.mk (qq (by repeat (first | (with_reducible first | exact HB.out | apply qf | apply qc | apply qe | refine qg ?_ GE215.out | refine qg ?_ GE216.out) | exact HB.out)) hb); clear BK215; clear BK216; clear HB; have BK215 := n0_; have BK216 := n1_; have HB := n2_; clear n0_ n1_ n2_; (try clear hb); (try clear hb2); (try clear hk); (try clear hi); have hcz50_0 : w49.cell? ⟨gb215, 0, none⟩ = some (.int .i64 a0_0) := (qb BK215.out 0).trans rfl; have hcz50_1 : w49.cell? ⟨gb215, 1, none⟩ = some (.int .i64 a0_1) := (qb BK215.out 1).trans rfl; have hcz50_2 : w49.cell? ⟨gb215, 2, none⟩ = some (.int .i64 a0_2) := (qb BK215.out 2).trans rfl; have hcz50_3 : w49.cell? ⟨gb215, 3, none⟩ = some (.int .u32 a0_3) := (qb BK215.out 3).trans rfl; have hcz50_4 : w49.cell? ⟨gb215, 4, none⟩ = some (.int .i64 a0_4) := (qb BK215.out 4).trans rfl; have hcz50_5 : w49.cell? ⟨gb215, 5, none⟩ = some (.int .i64 a0_5) := (qb BK215.out 5).trans rfl; have hfz50_0 := qa BK215.out 0; have hfz50_1 := qa BK215.out 1; have hfz50_2 := qa BK215.out 2; have hfz50_3 := qa BK215.out 3; have hfz50_4 := qa BK215.out 4; have hfz50_5 := qa BK215.out 5; have hcz51_0 : w49.cell? ⟨gb216, 0, none⟩ = some (.int .i64 a1_0) := (qb BK216.out 0).trans rfl; have hcz51_1 : w49.cell? ⟨gb216, 1, none⟩ = some (.int .i64 a1_1) := (qb BK216.out 1).trans rfl; have hcz51_2 : w49.cell? ⟨gb216, 2, none⟩ = some (.int .i64 a1_2) := (qb BK216.out 2).trans rfl; have hcz51_3 : w49.cell? ⟨gb216, 3, none⟩ = some (.int .u32 a1_3) := (qb BK216.out 3).trans rfl; have hcz51_4 : w49.cell? ⟨gb216, 4, none⟩ = some (.int .i64 a1_4) := (qb BK216.out 4).trans rfl; have hcz51_5 : w49.cell? ⟨gb216, 5, none⟩ = some (.int .i64 a1_5) := (qb BK216.out 5).trans rfl; have hfz51_0 := qa BK216.out 0; have hfz51_1 := qa BK216.out 1; have hfz51_2 := qa BK216.out 2; have hfz51_3 := qa BK216.out 3; have hfz51_4 := qa BK216.out 4; have hfz51_5 := qa BK216.out 5) | (go_at_call 66; (with_reducible refine (mimesisref29_turns.calls t217 true _ A42.out).mono ?_); rintro e w' ⟨rfl, ⟨nd, rfl⟩⟩))
           go_ret
           exact ⟨by first | rfl | (simp [qm, qn] <;> rfl) | (simp [*, qm, qn] <;> rfl), by repeat (first | (with_reducible first | exact HB.out | apply qf | apply qc | apply qe | refine qg ?_ GE215.out | refine qg ?_ GE216.out) | exact HB.out)⟩
          ·rw [if_neg c44] at H
           have c44b0 : (a0_1 == a1_2) = false := beq_eq_false_iff_ne.mpr c44
           have c44b1 : (a0_1 != a1_2) = true := bne_iff_ne.mpr c44
           obtain rfl := Option.some.inj H
           have hnb52 := NB215_216.out
           have hnc52 := NB216_215.out
           have hcz53_0 : wc.cell? ⟨gb215, 0, none⟩ = some (.int .i64 a0_0) := (qb BK215.out 0).trans rfl
           have hcz53_1 : wc.cell? ⟨gb215, 1, none⟩ = some (.int .i64 a0_1) := (qb BK215.out 1).trans rfl
           have hcz53_2 : wc.cell? ⟨gb215, 2, none⟩ = some (.int .i64 a0_2) := (qb BK215.out 2).trans rfl
           have hcz53_3 : wc.cell? ⟨gb215, 3, none⟩ = some (.int .u32 a0_3) := (qb BK215.out 3).trans rfl
           have hcz53_4 : wc.cell? ⟨gb215, 4, none⟩ = some (.int .i64 a0_4) := (qb BK215.out 4).trans rfl
           have hcz53_5 : wc.cell? ⟨gb215, 5, none⟩ = some (.int .i64 a0_5) := (qb BK215.out 5).trans rfl
           have hfz53_0 := qa BK215.out 0
           have hfz53_1 := qa BK215.out 1
           have hfz53_2 := qa BK215.out 2
           have hfz53_3 := qa BK215.out 3
           have hfz53_4 := qa BK215.out 4
           have hfz53_5 := qa BK215.out 5
           go_wp2_with (first | ((with_reducible refine qw (f := 65) rfl ?_); refine qE (some 47) rfl rfl Try.func65 (by kernel_rfl) rfl #[.int .i64 (wrap64 (a0_3))] rfl (by (try simp only [List.map_toArray, List.map_cons, List.map_nil]); first | done | rfl | (simp only [List.length_drop, List.length_take]; rfl)) ?_; (with_reducible refine (mimesisref28_Plain.calls (wrap64 (a0_3)) t217 _ A30.out).mono ?_); rintro e w54 ⟨rfl, hb⟩; refine ⟨_, rfl, ?_⟩; have n0_ := Aside0.mk (qo (g := gb215) (o := .cells #[.int .i64 a0_0, .int .i64 a0_1, .int .i64 a0_2, .int .u32 a0_3, .int .i64 a0_4, .int .i64 a0_5] 59 (0, 0)) (by (with_reducible repeat (first | refine qi ?_ _ | refine qk ?_ | refine qh ?_ _)); exact BK215.out) hb); have n1_ := Aside0.mk (qo (g := gb216) (o := .cells #[.int .i64 a1_0, .int .i64 a1_1, .int .i64 a1_2, .int .u32 a1_3, .int .i64 a1_4, .int .i64 a1_5] 59 (0, 0)) (by (with_reducible repeat (first | refine qi ?_ _ | refine qk ?_ | refine qh ?_ _)); exact BK216.out) hb); have n2_ := Aside0.mk (qq (by repeat (first | (with_reducible first | exact HB.out | apply qf | apply qc | apply qe | refine qg ?_ GE215.out | refine qg ?_ GE216.out) | exact HB.out)) hb); clear BK215; clear BK216; clear HB; have BK215 := n0_; have BK216 := n1_; have HB := n2_; clear n0_ n1_ n2_; (try clear hb); (try clear hb2); (try clear hk); (try clear hi); have hcz55_0 : w54.cell? ⟨gb216, 0, none⟩ = some (.int .i64 a1_0) := (qb BK216.out 0).trans rfl; have hcz55_1 : w54.cell? ⟨gb216, 1, none⟩ = some (.int .i64 a1_1) := (qb BK216.out 1).trans rfl; have hcz55_2 : w54.cell? ⟨gb216, 2, none⟩ = some (.int .i64 a1_2) := (qb BK216.out 2).trans rfl; have hcz55_3 : w54.cell? ⟨gb216, 3, none⟩ = some (.int .u32 a1_3) := (qb BK216.out 3).trans rfl; have hcz55_4 : w54.cell? ⟨gb216, 4, none⟩ = some (.int .i64 a1_4) := (qb BK216.out 4).trans rfl; have hcz55_5 : w54.cell? ⟨gb216, 5, none⟩ = some (.int .i64 a1_5) := (qb BK216.out 5).trans rfl; have hfz55_0 := qa BK216.out 0; have hfz55_1 := qa BK216.out 1; have hfz55_2 := qa BK216.out 2; have hfz55_3 := qa BK216.out 3; have hfz55_4 := qa BK216.out 4; have hfz55_5 := qa BK216.out 5) | ((with_reducible refine qw (f := 65) rfl ?_); refine qE (some 52) rfl rfl Try.func65 (by kernel_rfl) rfl #[.int .i64 (wrap64 (a1_3))] rfl (by (try simp only [List.map_toArray, List.map_cons, List.map_nil]); first | done | rfl | (simp only [List.length_drop, List.length_take]; rfl)) ?_; (with_reducible refine (mimesisref28_Plain.calls (wrap64 (a1_3)) t218 _ A31.out).mono ?_); rintro e w56 ⟨rfl, hb⟩; refine ⟨_, rfl, ?_⟩; have n0_ := Aside0.mk (qo (g := gb215) (o := .cells #[.int .i64 a0_0, .int .i64 a0_1, .int .i64 a0_2, .int .u32 a0_3, .int .i64 a0_4, .int .i64 a0_5] 59 (0, 0)) (by (with_reducible repeat (first | refine qi ?_ _ | refine qk ?_ | refine qh ?_ _)); exact BK215.out) hb); have n1_ := Aside0.mk (qo (g := gb216) (o := .cells #[.int .i64 a1_0, .int .i64 a1_1, .int .i64 a1_2, .int .u32 a1_3, .int .i64 a1_4, .int .i64 a1_5] 59 (0, 0)) (by (with_reducible repeat (first | refine qi ?_ _ | refine qk ?_ | refine qh ?_ _)); exact BK216.out) hb); have n2_ := Aside0.mk (qq (by repeat (first | (with_reducible first | exact HB.out | apply qf | apply qc | apply qe | refine qg ?_ GE215.out | refine qg ?_ GE216.out) | exact HB.out)) hb); clear BK215; clear BK216; clear HB; have BK215 := n0_; have BK216 := n1_; have HB := n2_; clear n0_ n1_ n2_; (try clear hb); (try clear hb2); (try clear hk); (try clear hi); have hcz57_0 : w56.cell? ⟨gb215, 0, none⟩ = some (.int .i64 a0_0) := (qb BK215.out 0).trans rfl; have hcz57_1 : w56.cell? ⟨gb215, 1, none⟩ = some (.int .i64 a0_1) := (qb BK215.out 1).trans rfl; have hcz57_2 : w56.cell? ⟨gb215, 2, none⟩ = some (.int .i64 a0_2) := (qb BK215.out 2).trans rfl; have hcz57_3 : w56.cell? ⟨gb215, 3, none⟩ = some (.int .u32 a0_3) := (qb BK215.out 3).trans rfl; have hcz57_4 : w56.cell? ⟨gb215, 4, none⟩ = some (.int .i64 a0_4) := (qb BK215.out 4).trans rfl; have hcz57_5 : w56.cell? ⟨gb215, 5, none⟩ = some (.int .i64 a0_5) := (qb BK215.out 5).trans rfl; have hfz57_0 := qa BK215.out 0; have hfz57_1 := qa BK215.out 1; have hfz57_2 := qa BK215.out 2; have hfz57_3 := qa BK215.out 3; have hfz57_4 := qa BK215.out 4; have hfz57_5 := qa BK215.out 5; have hcz58_0 : w56.cell? ⟨gb216, 0, none⟩ = some (.int .i64 a1_0) := (qb BK216.out 0).trans rfl; have hcz58_1 : w56.cell? ⟨gb216, 1, none⟩ = some (.int .i64 a1_1) := (qb BK216.out 1).trans rfl; have hcz58_2 : w56.cell? ⟨gb216, 2, none⟩ = some (.int .i64 a1_2) := (qb BK216.out 2).trans rfl; have hcz58_3 : w56.cell? ⟨gb216, 3, none⟩ = some (.int .u32 a1_3) := (qb BK216.out 3).trans rfl; have hcz58_4 : w56.cell? ⟨gb216, 4, none⟩ = some (.int .i64 a1_4) := (qb BK216.out 4).trans rfl; have hcz58_5 : w56.cell? ⟨gb216, 5, none⟩ = some (.int .i64 a1_5) := (qb BK216.out 5).trans rfl; have hfz58_0 := qa BK216.out 0; have hfz58_1 := qa BK216.out 1; have hfz58_2 := qa BK216.out 2; have hfz58_3 := qa BK216.out 3; have hfz58_4 := qa BK216.out 4; have hfz58_5 := qa BK216.out 5) | (go_at_call 66; (with_reducible refine (mimesisref29_turns.calls t217 true _ A42.out).mono ?_); rintro e w' ⟨rfl, ⟨nd, rfl⟩⟩))
           go_ret
           exact ⟨by first | rfl | (simp [qm, qn] <;> rfl) | (simp [*, qm, qn] <;> rfl), by repeat (first | (with_reducible first | exact HB.out | apply qf | apply qc | apply qe | refine qg ?_ GE215.out | refine qg ?_ GE216.out) | exact HB.out)⟩
         ·replace c43 := Bool.eq_false_iff.mpr c43
          subst c43
          have H1 : (some false) = some r := by rw [if_neg (show ¬ (false = true) by decide)] at H; exact H
          clear H
          have H := H1
          clear H1
          obtain rfl := Option.some.inj H
          have hnb59 := NB215_216.out
          have hnc59 := NB216_215.out
          have hcz60_0 : wc.cell? ⟨gb215, 0, none⟩ = some (.int .i64 a0_0) := (qb BK215.out 0).trans rfl
          have hcz60_1 : wc.cell? ⟨gb215, 1, none⟩ = some (.int .i64 a0_1) := (qb BK215.out 1).trans rfl
          have hcz60_2 : wc.cell? ⟨gb215, 2, none⟩ = some (.int .i64 a0_2) := (qb BK215.out 2).trans rfl
          have hcz60_3 : wc.cell? ⟨gb215, 3, none⟩ = some (.int .u32 a0_3) := (qb BK215.out 3).trans rfl
          have hcz60_4 : wc.cell? ⟨gb215, 4, none⟩ = some (.int .i64 a0_4) := (qb BK215.out 4).trans rfl
          have hcz60_5 : wc.cell? ⟨gb215, 5, none⟩ = some (.int .i64 a0_5) := (qb BK215.out 5).trans rfl
          have hfz60_0 := qa BK215.out 0
          have hfz60_1 := qa BK215.out 1
          have hfz60_2 := qa BK215.out 2
          have hfz60_3 := qa BK215.out 3
          have hfz60_4 := qa BK215.out 4
          have hfz60_5 := qa BK215.out 5
          go_wp2_with (first | ((with_reducible refine qw (f := 65) rfl ?_); refine qE (some 47) rfl rfl Try.func65 (by kernel_rfl) rfl #[.int .i64 (wrap64 (a0_3))] rfl (by (try simp only [List.map_toArray, List.map_cons, List.map_nil]); first | done | rfl | (simp only [List.length_drop, List.length_take]; rfl)) ?_; (with_reducible refine (mimesisref28_Plain.calls (wrap64 (a0_3)) t217 _ A30.out).mono ?_); rintro e w61 ⟨rfl, hb⟩; refine ⟨_, rfl, ?_⟩; have n0_ := Aside0.mk (qo (g := gb215) (o := .cells #[.int .i64 a0_0, .int .i64 a0_1, .int .i64 a0_2, .int .u32 a0_3, .int .i64 a0_4, .int .i64 a0_5] 59 (0, 0)) (by (with_reducible repeat (first | refine qi ?_ _ | refine qk ?_ | refine qh ?_ _)); exact BK215.out) hb); have n1_ := Aside0.mk (qo (g := gb216) (o := .cells #[.int .i64 a1_0, .int .i64 a1_1, .int .i64 a1_2, .int .u32 a1_3, .int .i64 a1_4, .int .i64 a1_5] 59 (0, 0)) (by (with_reducible repeat (first | refine qi ?_ _ | refine qk ?_ | refine qh ?_ _)); exact BK216.out) hb); have n2_ := Aside0.mk (qq (by repeat (first | (with_reducible first | exact HB.out | apply qf | apply qc | apply qe | refine qg ?_ GE215.out | refine qg ?_ GE216.out) | exact HB.out)) hb); clear BK215; clear BK216; clear HB; have BK215 := n0_; have BK216 := n1_; have HB := n2_; clear n0_ n1_ n2_; (try clear hb); (try clear hb2); (try clear hk); (try clear hi); have hcz62_0 : w61.cell? ⟨gb216, 0, none⟩ = some (.int .i64 a1_0) := (qb BK216.out 0).trans rfl; have hcz62_1 : w61.cell? ⟨gb216, 1, none⟩ = some (.int .i64 a1_1) := (qb BK216.out 1).trans rfl; have hcz62_2 : w61.cell? ⟨gb216, 2, none⟩ = some (.int .i64 a1_2) := (qb BK216.out 2).trans rfl; have hcz62_3 : w61.cell? ⟨gb216, 3, none⟩ = some (.int .u32 a1_3) := (qb BK216.out 3).trans rfl; have hcz62_4 : w61.cell? ⟨gb216, 4, none⟩ = some (.int .i64 a1_4) := (qb BK216.out 4).trans rfl; have hcz62_5 : w61.cell? ⟨gb216, 5, none⟩ = some (.int .i64 a1_5) := (qb BK216.out 5).trans rfl; have hfz62_0 := qa BK216.out 0; have hfz62_1 := qa BK216.out 1; have hfz62_2 := qa BK216.out 2; have hfz62_3 := qa BK216.out 3; have hfz62_4 := qa BK216.out 4; have hfz62_5 := qa BK216.out 5) | ((with_reducible refine qw (f := 65) rfl ?_); refine qE (some 52) rfl rfl Try.func65 (by kernel_rfl) rfl #[.int .i64 (wrap64 (a1_3))] rfl (by (try simp only [List.map_toArray, List.map_cons, List.map_nil]); first | done | rfl | (simp only [List.length_drop, List.length_take]; rfl)) ?_; (with_reducible refine (mimesisref28_Plain.calls (wrap64 (a1_3)) t218 _ A31.out).mono ?_); rintro e w63 ⟨rfl, hb⟩; refine ⟨_, rfl, ?_⟩; have n0_ := Aside0.mk (qo (g := gb215) (o := .cells #[.int .i64 a0_0, .int .i64 a0_1, .int .i64 a0_2, .int .u32 a0_3, .int .i64 a0_4, .int .i64 a0_5] 59 (0, 0)) (by (with_reducible repeat (first | refine qi ?_ _ | refine qk ?_ | refine qh ?_ _)); exact BK215.out) hb); have n1_ := Aside0.mk (qo (g := gb216) (o := .cells #[.int .i64 a1_0, .int .i64 a1_1, .int .i64 a1_2, .int .u32 a1_3, .int .i64 a1_4, .int .i64 a1_5] 59 (0, 0)) (by (with_reducible repeat (first | refine qi ?_ _ | refine qk ?_ | refine qh ?_ _)); exact BK216.out) hb); have n2_ := Aside0.mk (qq (by repeat (first | (with_reducible first | exact HB.out | apply qf | apply qc | apply qe | refine qg ?_ GE215.out | refine qg ?_ GE216.out) | exact HB.out)) hb); clear BK215; clear BK216; clear HB; have BK215 := n0_; have BK216 := n1_; have HB := n2_; clear n0_ n1_ n2_; (try clear hb); (try clear hb2); (try clear hk); (try clear hi); have hcz64_0 : w63.cell? ⟨gb215, 0, none⟩ = some (.int .i64 a0_0) := (qb BK215.out 0).trans rfl; have hcz64_1 : w63.cell? ⟨gb215, 1, none⟩ = some (.int .i64 a0_1) := (qb BK215.out 1).trans rfl; have hcz64_2 : w63.cell? ⟨gb215, 2, none⟩ = some (.int .i64 a0_2) := (qb BK215.out 2).trans rfl; have hcz64_3 : w63.cell? ⟨gb215, 3, none⟩ = some (.int .u32 a0_3) := (qb BK215.out 3).trans rfl; have hcz64_4 : w63.cell? ⟨gb215, 4, none⟩ = some (.int .i64 a0_4) := (qb BK215.out 4).trans rfl; have hcz64_5 : w63.cell? ⟨gb215, 5, none⟩ = some (.int .i64 a0_5) := (qb BK215.out 5).trans rfl; have hfz64_0 := qa BK215.out 0; have hfz64_1 := qa BK215.out 1; have hfz64_2 := qa BK215.out 2; have hfz64_3 := qa BK215.out 3; have hfz64_4 := qa BK215.out 4; have hfz64_5 := qa BK215.out 5; have hcz65_0 : w63.cell? ⟨gb216, 0, none⟩ = some (.int .i64 a1_0) := (qb BK216.out 0).trans rfl; have hcz65_1 : w63.cell? ⟨gb216, 1, none⟩ = some (.int .i64 a1_1) := (qb BK216.out 1).trans rfl; have hcz65_2 : w63.cell? ⟨gb216, 2, none⟩ = some (.int .i64 a1_2) := (qb BK216.out 2).trans rfl; have hcz65_3 : w63.cell? ⟨gb216, 3, none⟩ = some (.int .u32 a1_3) := (qb BK216.out 3).trans rfl; have hcz65_4 : w63.cell? ⟨gb216, 4, none⟩ = some (.int .i64 a1_4) := (qb BK216.out 4).trans rfl; have hcz65_5 : w63.cell? ⟨gb216, 5, none⟩ = some (.int .i64 a1_5) := (qb BK216.out 5).trans rfl; have hfz65_0 := qa BK216.out 0; have hfz65_1 := qa BK216.out 1; have hfz65_2 := qa BK216.out 2; have hfz65_3 := qa BK216.out 3; have hfz65_4 := qa BK216.out 4; have hfz65_5 := qa BK216.out 5) | (go_at_call 66; (with_reducible refine (mimesisref29_turns.calls t217 false _ A42.out).mono ?_); rintro e w' ⟨rfl, ⟨nd, rfl⟩⟩))
          go_ret
          exact ⟨by first | rfl | (simp [qm, qn] <;> rfl) | (simp [*, qm, qn] <;> rfl), by repeat (first | (with_reducible first | exact HB.out | apply qf | apply qc | apply qe | refine qg ?_ GE215.out | refine qg ?_ GE216.out) | exact HB.out)⟩
       ·rw [if_neg c33] at H
        have c33b0 : (a0_1 == a1_1) = false := beq_eq_false_iff_ne.mpr c33
        have c33b1 : (a0_1 != a1_1) = true := bne_iff_ne.mpr c33
        replace H := Option.bind_eq_some_iff.mp H
        obtain ⟨t220, A660, H⟩ := H
        replace H : (if t220 = true then (if a0_1 = a1_2 then (some (a0_2 == a1_1)) else (some false)) else (some false)) = some r := H
        have A66 := Aside0.mk A660
        clear A660
        by_cases c67 : t220 = true
        ·subst c67
         have H1 : (if a0_1 = a1_2 then (some (a0_2 == a1_1)) else (some false)) = some r := by rw [if_pos rfl] at H; exact H
         clear H
         have H := H1
         clear H1
         by_cases c68 : a0_1 = a1_2
         ·rw [if_pos c68] at H
          have c68b0 : (a0_1 == a1_2) = true := beq_iff_eq.mpr c68
          have c68b1 : (a0_1 != a1_2) = false := bne_eq_false_iff_eq.mpr c68
          clear c68
          obtain rfl := Option.some.inj H
          have hnb69 := NB215_216.out
          have hnc69 := NB216_215.out
          have hcz70_0 : wc.cell? ⟨gb215, 0, none⟩ = some (.int .i64 a0_0) := (qb BK215.out 0).trans rfl
          have hcz70_1 : wc.cell? ⟨gb215, 1, none⟩ = some (.int .i64 a0_1) := (qb BK215.out 1).trans rfl
          have hcz70_2 : wc.cell? ⟨gb215, 2, none⟩ = some (.int .i64 a0_2) := (qb BK215.out 2).trans rfl
          have hcz70_3 : wc.cell? ⟨gb215, 3, none⟩ = some (.int .u32 a0_3) := (qb BK215.out 3).trans rfl
          have hcz70_4 : wc.cell? ⟨gb215, 4, none⟩ = some (.int .i64 a0_4) := (qb BK215.out 4).trans rfl
          have hcz70_5 : wc.cell? ⟨gb215, 5, none⟩ = some (.int .i64 a0_5) := (qb BK215.out 5).trans rfl
          have hfz70_0 := qa BK215.out 0
          have hfz70_1 := qa BK215.out 1
          have hfz70_2 := qa BK215.out 2
          have hfz70_3 := qa BK215.out 3
          have hfz70_4 := qa BK215.out 4
          have hfz70_5 := qa BK215.out 5
          go_wp2_with (first | ((with_reducible refine qw (f := 65) rfl ?_); refine qE (some 47) rfl rfl Try.func65 (by kernel_rfl) rfl #[.int .i64 (wrap64 (a0_3))] rfl (by (try simp only [List.map_toArray, List.map_cons, List.map_nil]); first | done | rfl | (simp only [List.length_drop, List.length_take]; rfl)) ?_; (with_reducible refine (mimesisref28_Plain.calls (wrap64 (a0_3)) t217 _ A30.out).mono ?_); rintro e w71 ⟨rfl, hb⟩; refine ⟨_, rfl, ?_⟩; have n0_ := Aside0.mk (qo (g := gb215) (o := .cells #[.int .i64 a0_0, .int .i64 a0_1, .int .i64 a0_2, .int .u32 a0_3, .int .i64 a0_4, .int .i64 a0_5] 59 (0, 0)) (by (with_reducible repeat (first | refine qi ?_ _ | refine qk ?_ | refine qh ?_ _)); exact BK215.out) hb); have n1_ := Aside0.mk (qo (g := gb216) (o := .cells #[.int .i64 a1_0, .int .i64 a1_1, .int .i64 a1_2, .int .u32 a1_3, .int .i64 a1_4, .int .i64 a1_5] 59 (0, 0)) (by (with_reducible repeat (first | refine qi ?_ _ | refine qk ?_ | refine qh ?_ _)); exact BK216.out) hb); have n2_ := Aside0.mk (qq (by repeat (first | (with_reducible first | exact HB.out | apply qf | apply qc | apply qe | refine qg ?_ GE215.out | refine qg ?_ GE216.out) | exact HB.out)) hb); clear BK215; clear BK216; clear HB; have BK215 := n0_; have BK216 := n1_; have HB := n2_; clear n0_ n1_ n2_; (try clear hb); (try clear hb2); (try clear hk); (try clear hi); have hcz72_0 : w71.cell? ⟨gb216, 0, none⟩ = some (.int .i64 a1_0) := (qb BK216.out 0).trans rfl; have hcz72_1 : w71.cell? ⟨gb216, 1, none⟩ = some (.int .i64 a1_1) := (qb BK216.out 1).trans rfl; have hcz72_2 : w71.cell? ⟨gb216, 2, none⟩ = some (.int .i64 a1_2) := (qb BK216.out 2).trans rfl; have hcz72_3 : w71.cell? ⟨gb216, 3, none⟩ = some (.int .u32 a1_3) := (qb BK216.out 3).trans rfl; have hcz72_4 : w71.cell? ⟨gb216, 4, none⟩ = some (.int .i64 a1_4) := (qb BK216.out 4).trans rfl; have hcz72_5 : w71.cell? ⟨gb216, 5, none⟩ = some (.int .i64 a1_5) := (qb BK216.out 5).trans rfl; have hfz72_0 := qa BK216.out 0; have hfz72_1 := qa BK216.out 1; have hfz72_2 := qa BK216.out 2; have hfz72_3 := qa BK216.out 3; have hfz72_4 := qa BK216.out 4; have hfz72_5 := qa BK216.out 5) | ((with_reducible refine qw (f := 65) rfl ?_); refine qE (some 52) rfl rfl Try.func65 (by kernel_rfl) rfl #[.int .i64 (wrap64 (a1_3))] rfl (by (try simp only [List.map_toArray, List.map_cons, List.map_nil]); first | done | rfl | (simp only [List.length_drop, List.length_take]; rfl)) ?_; (with_reducible refine (mimesisref28_Plain.calls (wrap64 (a1_3)) t218 _ A31.out).mono ?_); rintro e w73 ⟨rfl, hb⟩; refine ⟨_, rfl, ?_⟩; have n0_ := Aside0.mk (qo (g := gb215) (o := .cells #[.int .i64 a0_0, .int .i64 a0_1, .int .i64 a0_2, .int .u32 a0_3, .int .i64 a0_4, .int .i64 a0_5] 59 (0, 0)) (by (with_reducible repeat (first | refine qi ?_ _ | refine qk ?_ | refine qh ?_ _)); exact BK215.out) hb); have n1_ := Aside0.mk (qo (g := gb216) (o := .cells #[.int .i64 a1_0, .int .i64 a1_1, .int .i64 a1_2, .int .u32 a1_3, .int .i64 a1_4, .int .i64 a1_5] 59 (0, 0)) (by (with_reducible repeat (first | refine qi ?_ _ | refine qk ?_ | refine qh ?_ _)); exact BK216.out) hb); have n2_ := Aside0.mk (qq (by repeat (first | (with_reducible first | exact HB.out | apply qf | apply qc | apply qe | refine qg ?_ GE215.out | refine qg ?_ GE216.out) | exact HB.out)) hb); clear BK215; clear BK216; clear HB; have BK215 := n0_; have BK216 := n1_; have HB := n2_; clear n0_ n1_ n2_; (try clear hb); (try clear hb2); (try clear hk); (try clear hi); have hcz74_0 : w73.cell? ⟨gb215, 0, none⟩ = some (.int .i64 a0_0) := (qb BK215.out 0).trans rfl; have hcz74_1 : w73.cell? ⟨gb215, 1, none⟩ = some (.int .i64 a0_1) := (qb BK215.out 1).trans rfl; have hcz74_2 : w73.cell? ⟨gb215, 2, none⟩ = some (.int .i64 a0_2) := (qb BK215.out 2).trans rfl; have hcz74_3 : w73.cell? ⟨gb215, 3, none⟩ = some (.int .u32 a0_3) := (qb BK215.out 3).trans rfl; have hcz74_4 : w73.cell? ⟨gb215, 4, none⟩ = some (.int .i64 a0_4) := (qb BK215.out 4).trans rfl; have hcz74_5 : w73.cell? ⟨gb215, 5, none⟩ = some (.int .i64 a0_5) := (qb BK215.out 5).trans rfl; have hfz74_0 := qa BK215.out 0; have hfz74_1 := qa BK215.out 1; have hfz74_2 := qa BK215.out 2; have hfz74_3 := qa BK215.out 3; have hfz74_4 := qa BK215.out 4; have hfz74_5 := qa BK215.out 5; have hcz75_0 : w73.cell? ⟨gb216, 0, none⟩ = some (.int .i64 a1_0) := (qb BK216.out 0).trans rfl; have hcz75_1 : w73.cell? ⟨gb216, 1, none⟩ = some (.int .i64 a1_1) := (qb BK216.out 1).trans rfl; have hcz75_2 : w73.cell? ⟨gb216, 2, none⟩ = some (.int .i64 a1_2) := (qb BK216.out 2).trans rfl; have hcz75_3 : w73.cell? ⟨gb216, 3, none⟩ = some (.int .u32 a1_3) := (qb BK216.out 3).trans rfl; have hcz75_4 : w73.cell? ⟨gb216, 4, none⟩ = some (.int .i64 a1_4) := (qb BK216.out 4).trans rfl; have hcz75_5 : w73.cell? ⟨gb216, 5, none⟩ = some (.int .i64 a1_5) := (qb BK216.out 5).trans rfl; have hfz75_0 := qa BK216.out 0; have hfz75_1 := qa BK216.out 1; have hfz75_2 := qa BK216.out 2; have hfz75_3 := qa BK216.out 3; have hfz75_4 := qa BK216.out 4; have hfz75_5 := qa BK216.out 5) | (go_at_call 66; (with_reducible refine (mimesisref29_turns.calls t217 true _ A66.out).mono ?_); rintro e w' ⟨rfl, ⟨nd, rfl⟩⟩))
          go_ret
          exact ⟨by first | rfl | (simp [qm, qn] <;> rfl) | (simp [*, qm, qn] <;> rfl), by repeat (first | (with_reducible first | exact HB.out | apply qf | apply qc | apply qe | refine qg ?_ GE215.out | refine qg ?_ GE216.out) | exact HB.out)⟩
         ·rw [if_neg c68] at H
          have c68b0 : (a0_1 == a1_2) = false := beq_eq_false_iff_ne.mpr c68
          have c68b1 : (a0_1 != a1_2) = true := bne_iff_ne.mpr c68
          obtain rfl := Option.some.inj H
          have hnb76 := NB215_216.out
          have hnc76 := NB216_215.out
          have hcz77_0 : wc.cell? ⟨gb215, 0, none⟩ = some (.int .i64 a0_0) := (qb BK215.out 0).trans rfl
          have hcz77_1 : wc.cell? ⟨gb215, 1, none⟩ = some (.int .i64 a0_1) := (qb BK215.out 1).trans rfl
          have hcz77_2 : wc.cell? ⟨gb215, 2, none⟩ = some (.int .i64 a0_2) := (qb BK215.out 2).trans rfl
          have hcz77_3 : wc.cell? ⟨gb215, 3, none⟩ = some (.int .u32 a0_3) := (qb BK215.out 3).trans rfl
          have hcz77_4 : wc.cell? ⟨gb215, 4, none⟩ = some (.int .i64 a0_4) := (qb BK215.out 4).trans rfl
          have hcz77_5 : wc.cell? ⟨gb215, 5, none⟩ = some (.int .i64 a0_5) := (qb BK215.out 5).trans rfl
          have hfz77_0 := qa BK215.out 0
          have hfz77_1 := qa BK215.out 1
          have hfz77_2 := qa BK215.out 2
          have hfz77_3 := qa BK215.out 3
          have hfz77_4 := qa BK215.out 4
          have hfz77_5 := qa BK215.out 5
          go_wp2_with (first | ((with_reducible refine qw (f := 65) rfl ?_); refine qE (some 47) rfl rfl Try.func65 (by kernel_rfl) rfl #[.int .i64 (wrap64 (a0_3))] rfl (by (try simp only [List.map_toArray, List.map_cons, List.map_nil]); first | done | rfl | (simp only [List.length_drop, List.length_take]; rfl)) ?_; (with_reducible refine (mimesisref28_Plain.calls (wrap64 (a0_3)) t217 _ A30.out).mono ?_); rintro e w78 ⟨rfl, hb⟩; refine ⟨_, rfl, ?_⟩; have n0_ := Aside0.mk (qo (g := gb215) (o := .cells #[.int .i64 a0_0, .int .i64 a0_1, .int .i64 a0_2, .int .u32 a0_3, .int .i64 a0_4, .int .i64 a0_5] 59 (0, 0)) (by (with_reducible repeat (first | refine qi ?_ _ | refine qk ?_ | refine qh ?_ _)); exact BK215.out) hb); have n1_ := Aside0.mk (qo (g := gb216) (o := .cells #[.int .i64 a1_0, .int .i64 a1_1, .int .i64 a1_2, .int .u32 a1_3, .int .i64 a1_4, .int .i64 a1_5] 59 (0, 0)) (by (with_reducible repeat (first | refine qi ?_ _ | refine qk ?_ | refine qh ?_ _)); exact BK216.out) hb); have n2_ := Aside0.mk (qq (by repeat (first | (with_reducible first | exact HB.out | apply qf | apply qc | apply qe | refine qg ?_ GE215.out | refine qg ?_ GE216.out) | exact HB.out)) hb); clear BK215; clear BK216; clear HB; have BK215 := n0_; have BK216 := n1_; have HB := n2_; clear n0_ n1_ n2_; (try clear hb); (try clear hb2); (try clear hk); (try clear hi); have hcz79_0 : w78.cell? ⟨gb216, 0, none⟩ = some (.int .i64 a1_0) := (qb BK216.out 0).trans rfl; have hcz79_1 : w78.cell? ⟨gb216, 1, none⟩ = some (.int .i64 a1_1) := (qb BK216.out 1).trans rfl; have hcz79_2 : w78.cell? ⟨gb216, 2, none⟩ = some (.int .i64 a1_2) := (qb BK216.out 2).trans rfl; have hcz79_3 : w78.cell? ⟨gb216, 3, none⟩ = some (.int .u32 a1_3) := (qb BK216.out 3).trans rfl; have hcz79_4 : w78.cell? ⟨gb216, 4, none⟩ = some (.int .i64 a1_4) := (qb BK216.out 4).trans rfl; have hcz79_5 : w78.cell? ⟨gb216, 5, none⟩ = some (.int .i64 a1_5) := (qb BK216.out 5).trans rfl; have hfz79_0 := qa BK216.out 0; have hfz79_1 := qa BK216.out 1; have hfz79_2 := qa BK216.out 2; have hfz79_3 := qa BK216.out 3; have hfz79_4 := qa BK216.out 4; have hfz79_5 := qa BK216.out 5) | ((with_reducible refine qw (f := 65) rfl ?_); refine qE (some 52) rfl rfl Try.func65 (by kernel_rfl) rfl #[.int .i64 (wrap64 (a1_3))] rfl (by (try simp only [List.map_toArray, List.map_cons, List.map_nil]); first | done | rfl | (simp only [List.length_drop, List.length_take]; rfl)) ?_; (with_reducible refine (mimesisref28_Plain.calls (wrap64 (a1_3)) t218 _ A31.out).mono ?_); rintro e w80 ⟨rfl, hb⟩; refine ⟨_, rfl, ?_⟩; have n0_ := Aside0.mk (qo (g := gb215) (o := .cells #[.int .i64 a0_0, .int .i64 a0_1, .int .i64 a0_2, .int .u32 a0_3, .int .i64 a0_4, .int .i64 a0_5] 59 (0, 0)) (by (with_reducible repeat (first | refine qi ?_ _ | refine qk ?_ | refine qh ?_ _)); exact BK215.out) hb); have n1_ := Aside0.mk (qo (g := gb216) (o := .cells #[.int .i64 a1_0, .int .i64 a1_1, .int .i64 a1_2, .int .u32 a1_3, .int .i64 a1_4, .int .i64 a1_5] 59 (0, 0)) (by (with_reducible repeat (first | refine qi ?_ _ | refine qk ?_ | refine qh ?_ _)); exact BK216.out) hb); have n2_ := Aside0.mk (qq (by repeat (first | (with_reducible first | exact HB.out | apply qf | apply qc | apply qe | refine qg ?_ GE215.out | refine qg ?_ GE216.out) | exact HB.out)) hb); clear BK215; clear BK216; clear HB; have BK215 := n0_; have BK216 := n1_; have HB := n2_; clear n0_ n1_ n2_; (try clear hb); (try clear hb2); (try clear hk); (try clear hi); have hcz81_0 : w80.cell? ⟨gb215, 0, none⟩ = some (.int .i64 a0_0) := (qb BK215.out 0).trans rfl; have hcz81_1 : w80.cell? ⟨gb215, 1, none⟩ = some (.int .i64 a0_1) := (qb BK215.out 1).trans rfl; have hcz81_2 : w80.cell? ⟨gb215, 2, none⟩ = some (.int .i64 a0_2) := (qb BK215.out 2).trans rfl; have hcz81_3 : w80.cell? ⟨gb215, 3, none⟩ = some (.int .u32 a0_3) := (qb BK215.out 3).trans rfl; have hcz81_4 : w80.cell? ⟨gb215, 4, none⟩ = some (.int .i64 a0_4) := (qb BK215.out 4).trans rfl; have hcz81_5 : w80.cell? ⟨gb215, 5, none⟩ = some (.int .i64 a0_5) := (qb BK215.out 5).trans rfl; have hfz81_0 := qa BK215.out 0; have hfz81_1 := qa BK215.out 1; have hfz81_2 := qa BK215.out 2; have hfz81_3 := qa BK215.out 3; have hfz81_4 := qa BK215.out 4; have hfz81_5 := qa BK215.out 5; have hcz82_0 : w80.cell? ⟨gb216, 0, none⟩ = some (.int .i64 a1_0) := (qb BK216.out 0).trans rfl; have hcz82_1 : w80.cell? ⟨gb216, 1, none⟩ = some (.int .i64 a1_1) := (qb BK216.out 1).trans rfl; have hcz82_2 : w80.cell? ⟨gb216, 2, none⟩ = some (.int .i64 a1_2) := (qb BK216.out 2).trans rfl; have hcz82_3 : w80.cell? ⟨gb216, 3, none⟩ = some (.int .u32 a1_3) := (qb BK216.out 3).trans rfl; have hcz82_4 : w80.cell? ⟨gb216, 4, none⟩ = some (.int .i64 a1_4) := (qb BK216.out 4).trans rfl; have hcz82_5 : w80.cell? ⟨gb216, 5, none⟩ = some (.int .i64 a1_5) := (qb BK216.out 5).trans rfl; have hfz82_0 := qa BK216.out 0; have hfz82_1 := qa BK216.out 1; have hfz82_2 := qa BK216.out 2; have hfz82_3 := qa BK216.out 3; have hfz82_4 := qa BK216.out 4; have hfz82_5 := qa BK216.out 5) | (go_at_call 66; (with_reducible refine (mimesisref29_turns.calls t217 true _ A66.out).mono ?_); rintro e w' ⟨rfl, ⟨nd, rfl⟩⟩))
          go_ret
          exact ⟨by first | rfl | (simp [qm, qn] <;> rfl) | (simp [*, qm, qn] <;> rfl), by repeat (first | (with_reducible first | exact HB.out | apply qf | apply qc | apply qe | refine qg ?_ GE215.out | refine qg ?_ GE216.out) | exact HB.out)⟩
        ·replace c67 := Bool.eq_false_iff.mpr c67
         subst c67
         have H1 : (some false) = some r := by rw [if_neg (show ¬ (false = true) by decide)] at H; exact H
         clear H
         have H := H1
         clear H1
         obtain rfl := Option.some.inj H
         have hnb83 := NB215_216.out
         have hnc83 := NB216_215.out
         have hcz84_0 : wc.cell? ⟨gb215, 0, none⟩ = some (.int .i64 a0_0) := (qb BK215.out 0).trans rfl
         have hcz84_1 : wc.cell? ⟨gb215, 1, none⟩ = some (.int .i64 a0_1) := (qb BK215.out 1).trans rfl
         have hcz84_2 : wc.cell? ⟨gb215, 2, none⟩ = some (.int .i64 a0_2) := (qb BK215.out 2).trans rfl
         have hcz84_3 : wc.cell? ⟨gb215, 3, none⟩ = some (.int .u32 a0_3) := (qb BK215.out 3).trans rfl
         have hcz84_4 : wc.cell? ⟨gb215, 4, none⟩ = some (.int .i64 a0_4) := (qb BK215.out 4).trans rfl
         have hcz84_5 : wc.cell? ⟨gb215, 5, none⟩ = some (.int .i64 a0_5) := (qb BK215.out 5).trans rfl
         have hfz84_0 := qa BK215.out 0
         have hfz84_1 := qa BK215.out 1
         have hfz84_2 := qa BK215.out 2
         have hfz84_3 := qa BK215.out 3
         have hfz84_4 := qa BK215.out 4
         have hfz84_5 := qa BK215.out 5
         go_wp2_with (first | ((with_reducible refine qw (f := 65) rfl ?_); refine qE (some 47) rfl rfl Try.func65 (by kernel_rfl) rfl #[.int .i64 (wrap64 (a0_3))] rfl (by (try simp only [List.map_toArray, List.map_cons, List.map_nil]); first | done | rfl | (simp only [List.length_drop, List.length_take]; rfl)) ?_; (with_reducible refine (mimesisref28_Plain.calls (wrap64 (a0_3)) t217 _ A30.out).mono ?_); rintro e w85 ⟨rfl, hb⟩; refine ⟨_, rfl, ?_⟩; have n0_ := Aside0.mk (qo (g := gb215) (o := .cells #[.int .i64 a0_0, .int .i64 a0_1, .int .i64 a0_2, .int .u32 a0_3, .int .i64 a0_4, .int .i64 a0_5] 59 (0, 0)) (by (with_reducible repeat (first | refine qi ?_ _ | refine qk ?_ | refine qh ?_ _)); exact BK215.out) hb); have n1_ := Aside0.mk (qo (g := gb216) (o := .cells #[.int .i64 a1_0, .int .i64 a1_1, .int .i64 a1_2, .int .u32 a1_3, .int .i64 a1_4, .int .i64 a1_5] 59 (0, 0)) (by (with_reducible repeat (first | refine qi ?_ _ | refine qk ?_ | refine qh ?_ _)); exact BK216.out) hb); have n2_ := Aside0.mk (qq (by repeat (first | (with_reducible first | exact HB.out | apply qf | apply qc | apply qe | refine qg ?_ GE215.out | refine qg ?_ GE216.out) | exact HB.out)) hb); clear BK215; clear BK216; clear HB; have BK215 := n0_; have BK216 := n1_; have HB := n2_; clear n0_ n1_ n2_; (try clear hb); (try clear hb2); (try clear hk); (try clear hi); have hcz86_0 : w85.cell? ⟨gb216, 0, none⟩ = some (.int .i64 a1_0) := (qb BK216.out 0).trans rfl; have hcz86_1 : w85.cell? ⟨gb216, 1, none⟩ = some (.int .i64 a1_1) := (qb BK216.out 1).trans rfl; have hcz86_2 : w85.cell? ⟨gb216, 2, none⟩ = some (.int .i64 a1_2) := (qb BK216.out 2).trans rfl; have hcz86_3 : w85.cell? ⟨gb216, 3, none⟩ = some (.int .u32 a1_3) := (qb BK216.out 3).trans rfl; have hcz86_4 : w85.cell? ⟨gb216, 4, none⟩ = some (.int .i64 a1_4) := (qb BK216.out 4).trans rfl; have hcz86_5 : w85.cell? ⟨gb216, 5, none⟩ = some (.int .i64 a1_5) := (qb BK216.out 5).trans rfl; have hfz86_0 := qa BK216.out 0; have hfz86_1 := qa BK216.out 1; have hfz86_2 := qa BK216.out 2; have hfz86_3 := qa BK216.out 3; have hfz86_4 := qa BK216.out 4; have hfz86_5 := qa BK216.out 5) | ((with_reducible refine qw (f := 65) rfl ?_); refine qE (some 52) rfl rfl Try.func65 (by kernel_rfl) rfl #[.int .i64 (wrap64 (a1_3))] rfl (by (try simp only [List.map_toArray, List.map_cons, List.map_nil]); first | done | rfl | (simp only [List.length_drop, List.length_take]; rfl)) ?_; (with_reducible refine (mimesisref28_Plain.calls (wrap64 (a1_3)) t218 _ A31.out).mono ?_); rintro e w87 ⟨rfl, hb⟩; refine ⟨_, rfl, ?_⟩; have n0_ := Aside0.mk (qo (g := gb215) (o := .cells #[.int .i64 a0_0, .int .i64 a0_1, .int .i64 a0_2, .int .u32 a0_3, .int .i64 a0_4, .int .i64 a0_5] 59 (0, 0)) (by (with_reducible repeat (first | refine qi ?_ _ | refine qk ?_ | refine qh ?_ _)); exact BK215.out) hb); have n1_ := Aside0.mk (qo (g := gb216) (o := .cells #[.int .i64 a1_0, .int .i64 a1_1, .int .i64 a1_2, .int .u32 a1_3, .int .i64 a1_4, .int .i64 a1_5] 59 (0, 0)) (by (with_reducible repeat (first | refine qi ?_ _ | refine qk ?_ | refine qh ?_ _)); exact BK216.out) hb); have n2_ := Aside0.mk (qq (by repeat (first | (with_reducible first | exact HB.out | apply qf | apply qc | apply qe | refine qg ?_ GE215.out | refine qg ?_ GE216.out) | exact HB.out)) hb); clear BK215; clear BK216; clear HB; have BK215 := n0_; have BK216 := n1_; have HB := n2_; clear n0_ n1_ n2_; (try clear hb); (try clear hb2); (try clear hk); (try clear hi); have hcz88_0 : w87.cell? ⟨gb215, 0, none⟩ = some (.int .i64 a0_0) := (qb BK215.out 0).trans rfl; have hcz88_1 : w87.cell? ⟨gb215, 1, none⟩ = some (.int .i64 a0_1) := (qb BK215.out 1).trans rfl; have hcz88_2 : w87.cell? ⟨gb215, 2, none⟩ = some (.int .i64 a0_2) := (qb BK215.out 2).trans rfl; have hcz88_3 : w87.cell? ⟨gb215, 3, none⟩ = some (.int .u32 a0_3) := (qb BK215.out 3).trans rfl; have hcz88_4 : w87.cell? ⟨gb215, 4, none⟩ = some (.int .i64 a0_4) := (qb BK215.out 4).trans rfl; have hcz88_5 : w87.cell? ⟨gb215, 5, none⟩ = some (.int .i64 a0_5) := (qb BK215.out 5).trans rfl; have hfz88_0 := qa BK215.out 0; have hfz88_1 := qa BK215.out 1; have hfz88_2 := qa BK215.out 2; have hfz88_3 := qa BK215.out 3; have hfz88_4 := qa BK215.out 4; have hfz88_5 := qa BK215.out 5; have hcz89_0 : w87.cell? ⟨gb216, 0, none⟩ = some (.int .i64 a1_0) := (qb BK216.out 0).trans rfl; have hcz89_1 : w87.cell? ⟨gb216, 1, none⟩ = some (.int .i64 a1_1) := (qb BK216.out 1).trans rfl; have hcz89_2 : w87.cell? ⟨gb216, 2, none⟩ = some (.int .i64 a1_2) := (qb BK216.out 2).trans rfl; have hcz89_3 : w87.cell? ⟨gb216, 3, none⟩ = some (.int .u32 a1_3) := (qb BK216.out 3).trans rfl; have hcz89_4 : w87.cell? ⟨gb216, 4, none⟩ = some (.int .i64 a1_4) := (qb BK216.out 4).trans rfl; have hcz89_5 : w87.cell? ⟨gb216, 5, none⟩ = some (.int .i64 a1_5) := (qb BK216.out 5).trans rfl; have hfz89_0 := qa BK216.out 0; have hfz89_1 := qa BK216.out 1; have hfz89_2 := qa BK216.out 2; have hfz89_3 := qa BK216.out 3; have hfz89_4 := qa BK216.out 4; have hfz89_5 := qa BK216.out 5) | (go_at_call 66; (with_reducible refine (mimesisref29_turns.calls t217 false _ A66.out).mono ?_); rintro e w' ⟨rfl, ⟨nd, rfl⟩⟩))
         go_ret
         exact ⟨by first | rfl | (simp [qm, qn] <;> rfl) | (simp [*, qm, qn] <;> rfl), by repeat (first | (with_reducible first | exact HB.out | apply qf | apply qc | apply qe | refine qg ?_ GE215.out | refine qg ?_ GE216.out) | exact HB.out)⟩
      ·rw [if_neg c32] at H
       have c32b0 : (t217 == t218) = false := beq_eq_false_iff_ne.mpr c32
       have c32b1 : (t217 != t218) = true := bne_iff_ne.mpr c32
       obtain rfl := Option.some.inj H
       have hnb90 := NB215_216.out
       have hnc90 := NB216_215.out
       have hcz91_0 : wc.cell? ⟨gb215, 0, none⟩ = some (.int .i64 a0_0) := (qb BK215.out 0).trans rfl
       have hcz91_1 : wc.cell? ⟨gb215, 1, none⟩ = some (.int .i64 a0_1) := (qb BK215.out 1).trans rfl
       have hcz91_2 : wc.cell? ⟨gb215, 2, none⟩ = some (.int .i64 a0_2) := (qb BK215.out 2).trans rfl
       have hcz91_3 : wc.cell? ⟨gb215, 3, none⟩ = some (.int .u32 a0_3) := (qb BK215.out 3).trans rfl
       have hcz91_4 : wc.cell? ⟨gb215, 4, none⟩ = some (.int .i64 a0_4) := (qb BK215.out 4).trans rfl
       have hcz91_5 : wc.cell? ⟨gb215, 5, none⟩ = some (.int .i64 a0_5) := (qb BK215.out 5).trans rfl
       have hfz91_0 := qa BK215.out 0
       have hfz91_1 := qa BK215.out 1
       have hfz91_2 := qa BK215.out 2
       have hfz91_3 := qa BK215.out 3
       have hfz91_4 := qa BK215.out 4
       have hfz91_5 := qa BK215.out 5
       go_wp2_with (first | ((with_reducible refine qw (f := 65) rfl ?_); refine qE (some 47) rfl rfl Try.func65 (by kernel_rfl) rfl #[.int .i64 (wrap64 (a0_3))] rfl (by (try simp only [List.map_toArray, List.map_cons, List.map_nil]); first | done | rfl | (simp only [List.length_drop, List.length_take]; rfl)) ?_; (with_reducible refine (mimesisref28_Plain.calls (wrap64 (a0_3)) t217 _ A30.out).mono ?_); rintro e w92 ⟨rfl, hb⟩; refine ⟨_, rfl, ?_⟩; have n0_ := Aside0.mk (qo (g := gb215) (o := .cells #[.int .i64 a0_0, .int .i64 a0_1, .int .i64 a0_2, .int .u32 a0_3, .int .i64 a0_4, .int .i64 a0_5] 59 (0, 0)) (by (with_reducible repeat (first | refine qi ?_ _ | refine qk ?_ | refine qh ?_ _)); exact BK215.out) hb); have n1_ := Aside0.mk (qo (g := gb216) (o := .cells #[.int .i64 a1_0, .int .i64 a1_1, .int .i64 a1_2, .int .u32 a1_3, .int .i64 a1_4, .int .i64 a1_5] 59 (0, 0)) (by (with_reducible repeat (first | refine qi ?_ _ | refine qk ?_ | refine qh ?_ _)); exact BK216.out) hb); have n2_ := Aside0.mk (qq (by repeat (first | (with_reducible first | exact HB.out | apply qf | apply qc | apply qe | refine qg ?_ GE215.out | refine qg ?_ GE216.out) | exact HB.out)) hb); clear BK215; clear BK216; clear HB; have BK215 := n0_; have BK216 := n1_; have HB := n2_; clear n0_ n1_ n2_; (try clear hb); (try clear hb2); (try clear hk); (try clear hi); have hcz93_0 : w92.cell? ⟨gb216, 0, none⟩ = some (.int .i64 a1_0) := (qb BK216.out 0).trans rfl; have hcz93_1 : w92.cell? ⟨gb216, 1, none⟩ = some (.int .i64 a1_1) := (qb BK216.out 1).trans rfl; have hcz93_2 : w92.cell? ⟨gb216, 2, none⟩ = some (.int .i64 a1_2) := (qb BK216.out 2).trans rfl; have hcz93_3 : w92.cell? ⟨gb216, 3, none⟩ = some (.int .u32 a1_3) := (qb BK216.out 3).trans rfl; have hcz93_4 : w92.cell? ⟨gb216, 4, none⟩ = some (.int .i64 a1_4) := (qb BK216.out 4).trans rfl; have hcz93_5 : w92.cell? ⟨gb216, 5, none⟩ = some (.int .i64 a1_5) := (qb BK216.out 5).trans rfl; have hfz93_0 := qa BK216.out 0; have hfz93_1 := qa BK216.out 1; have hfz93_2 := qa BK216.out 2; have hfz93_3 := qa BK216.out 3; have hfz93_4 := qa BK216.out 4; have hfz93_5 := qa BK216.out 5) | ((with_reducible refine qw (f := 65) rfl ?_); refine qE (some 52) rfl rfl Try.func65 (by kernel_rfl) rfl #[.int .i64 (wrap64 (a1_3))] rfl (by (try simp only [List.map_toArray, List.map_cons, List.map_nil]); first | done | rfl | (simp only [List.length_drop, List.length_take]; rfl)) ?_; (with_reducible refine (mimesisref28_Plain.calls (wrap64 (a1_3)) t218 _ A31.out).mono ?_); rintro e w94 ⟨rfl, hb⟩; refine ⟨_, rfl, ?_⟩; have n0_ := Aside0.mk (qo (g := gb215) (o := .cells #[.int .i64 a0_0, .int .i64 a0_1, .int .i64 a0_2, .int .u32 a0_3, .int .i64 a0_4, .int .i64 a0_5] 59 (0, 0)) (by (with_reducible repeat (first | refine qi ?_ _ | refine qk ?_ | refine qh ?_ _)); exact BK215.out) hb); have n1_ := Aside0.mk (qo (g := gb216) (o := .cells #[.int .i64 a1_0, .int .i64 a1_1, .int .i64 a1_2, .int .u32 a1_3, .int .i64 a1_4, .int .i64 a1_5] 59 (0, 0)) (by (with_reducible repeat (first | refine qi ?_ _ | refine qk ?_ | refine qh ?_ _)); exact BK216.out) hb); have n2_ := Aside0.mk (qq (by repeat (first | (with_reducible first | exact HB.out | apply qf | apply qc | apply qe | refine qg ?_ GE215.out | refine qg ?_ GE216.out) | exact HB.out)) hb); clear BK215; clear BK216; clear HB; have BK215 := n0_; have BK216 := n1_; have HB := n2_; clear n0_ n1_ n2_; (try clear hb); (try clear hb2); (try clear hk); (try clear hi)))
       go_ret
       exact ⟨by first | rfl | (simp [qm, qn] <;> rfl) | (simp [*, qm, qn] <;> rfl), by repeat (first | (with_reducible first | exact HB.out | apply qf | apply qc | apply qe | refine qg ?_ GE215.out | refine qg ?_ GE216.out) | exact HB.out)⟩

end Go.Proofs.Ytlnbghhhifnbdaa.PNumberDoes
