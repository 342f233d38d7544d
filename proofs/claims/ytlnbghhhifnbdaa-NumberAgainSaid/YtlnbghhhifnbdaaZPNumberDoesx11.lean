/- Proved: contracts of single functions, and words for them, as the kit's print has printed them; names shortened. Conditions: those that each theorem names. -/
import Derived.Test.YtlnbghhhifnbdaaZPNumberDoesx0
import Derived.Test.YtlnbghhhifnbdaaZPNumberDoesx4
import Derived.Test.YtlnbghhhifnbdaaZPNumberDoesx10
namespace Go.Proofs.Ytlnbghhhifnbdaa.PNumberDoes
open Go.RowKit Go.Proofs.YtlnbghhhifnbdaaW.PrintWords Go.Proofs.YtlnbghhhifnbdaaW.PrintLast Go.Proofs.YtlnbghhhifnbdaaW.PrintMore
attribute [local go_sem] max2_int min2_int max_two min_two qQ qR max_four min_four
set_option linter.unusedVariables false
set_option linter.unusedSimpArgs false

def number_Alike.j0 : Nat → Int → Bool → Int → Int → Int → Int → Int → Int → Int → Int → Int → Int → Int → Int → Option (Bool)
 | 0, _, _, _, _, _, _, _, _, _, _, _, _, _, _ => none
 | k + 1, x13, x14, x192000, x192001, x192002, x192003, x192004, x192005, x193000, x193001, x193002, x193003, x193004, x193005 => if x14 = true then (some (x192003 == x193003)) else (if x13 = 4 then (if x192003 = x193003 then (some (x192001 == x193001)) else (some false)) else (if x13 = 3 then ((number_plain.f x192003).bind fun t193 => (if x192001 = x193001 then ((number_plain.f x193003).bind fun t194 => (if t193 = t194 then (if x192002 = x193002 then (some true) else ((number_turns.f t193).bind fun t195 => (if t195 = true then (if x192001 = x193002 then (some (x192002 == x193001)) else (some false)) else (some false)))) else (some false))) else ((number_plain.f x193003).bind fun t196 => (if t193 = t196 then ((number_turns.f t193).bind fun t197 => (if t197 = true then (if x192001 = x193002 then (some (x192002 == x193001)) else (some false)) else (some false))) else (some false))))) else (some false)))
def number_Alike.f (k : Nat) (a0_0 : Int) (a0_1 : Int) (a0_2 : Int) (a0_3 : Int) (a0_4 : Int) (a0_5 : Int) (a1_0 : Int) (a1_1 : Int) (a1_2 : Int) (a1_3 : Int) (a1_4 : Int) (a1_5 : Int) : Option (Bool) := if a0_0 = a1_0 then (if a0_0 = 1 then (number_Alike.j0 k a0_0 (a0_0 == 1) a0_0 a0_1 a0_2 a0_3 a0_4 a0_5 a1_0 a1_1 a1_2 a1_3 a1_4 a1_5) else (number_Alike.j0 k a0_0 (a0_0 == 2) a0_0 a0_1 a0_2 a0_3 a0_4 a0_5 a1_0 a1_1 a1_2 a1_3 a1_4 a1_5)) else (some false)
set_option maxHeartbeats 8000000 in
set_option maxRecDepth 100000 in
theorem number_Alike.calls (k : Nat) (a0_0 : Int) (a0_1 : Int) (a0_2 : Int) (a0_3 : Int) (a0_4 : Int) (a0_5 : Int) (a1_0 : Int) (a1_1 : Int) (a1_2 : Int) (a1_3 : Int) (a1_4 : Int) (a1_5 : Int) (r : Bool) (w : World) (h : number_Alike.f k a0_0 a0_1 a0_2 a0_3 a0_4 a0_5 a1_0 a1_1 a1_2 a1_3 a1_4 a1_5 = some r) :
  Calls Try.prog 109 #[.agg #[.int .i64 a0_0, .int .i64 a0_1, .int .i64 a0_2, .int .u32 a0_3, .int .i64 a0_4, .int .i64 a0_5], .agg #[.int .i64 a1_0, .int .i64 a1_1, .int .i64 a1_2, .int .u32 a1_3, .int .i64 a1_4, .int .i64 a1_5]] w fun e w' => e = .returned (.bool r) ∧ Below w.heap.size w w' := by
 have hu66 := Try.underlying66
 have HB := Aside0.mk (Below.refl w.heap.size w)
 have H : (if a0_0 = a1_0 then (if a0_0 = 1 then (number_Alike.j0 k a0_0 (a0_0 == 1) a0_0 a0_1 a0_2 a0_3 a0_4 a0_5 a1_0 a1_1 a1_2 a1_3 a1_4 a1_5) else (number_Alike.j0 k a0_0 (a0_0 == 2) a0_0 a0_1 a0_2 a0_3 a0_4 a0_5 a1_0 a1_1 a1_2 a1_3 a1_4 a1_5)) else (some false)) = some r := h
 clear h
 by_cases c3 : a0_0 = a1_0
 ·rw [if_pos c3] at H
  have c3b0 : (a0_0 == a1_0) = true := beq_iff_eq.mpr c3
  have c3b1 : (a0_0 != a1_0) = false := bne_eq_false_iff_eq.mpr c3
  clear c3
  have HC4 := Aside0.mk H
  clear H
  go_enter Try.func109, Try.ntmps109
  go_upto_if 14 with (first | ((with_reducible refine qC (N := 2) rfl ?_); refine qA ?hg (N := 2) ?hd (cs := #[.int .i64 a0_0, .int .i64 a0_1, .int .i64 a0_2, .int .u32 a0_3, .int .i64 a0_4, .int .i64 a0_5]) (t := 66) ?hr ?_; (case hd => rfl); (case hg => rfl); (case hr => first | (go_simp; done) | (go_simp; rfl)); intro gb191 hg w5 hbox hb; have n0_ := Aside0.mk (qq (by repeat (first | (with_reducible first | exact HB.out | apply qf | apply qc | apply qe) | exact HB.out)) hb); have n1_ := Aside0.mk (hbox); have n2_ := Aside0.mk ((by rw [hg]; exact (qt (by repeat (first | (with_reducible first | exact HB.out | apply qf | apply qc | apply qe) | exact HB.out))) : w.heap.size ≤ gb191)); have n3_ := Aside0.mk ((by rw [hg]; exact (qt (by repeat (first | (with_reducible first | exact HB.out | apply qf | apply qc | apply qe) | exact HB.out))) : w.heap.size ≤ gb191)); clear HB; have HB := n0_; have BK191 := n1_; have GW191 := n2_; have GE191 := n3_; clear n0_ n1_ n2_ n3_; clear hb hbox hg) | ((with_reducible refine qC (N := 3) rfl ?_); refine qA ?hg (N := 3) ?hd (cs := #[.int .i64 a1_0, .int .i64 a1_1, .int .i64 a1_2, .int .u32 a1_3, .int .i64 a1_4, .int .i64 a1_5]) (t := 66) ?hr ?_; (case hd => rfl); (case hg => rfl); (case hr => first | (go_simp; done) | (go_simp; rfl)); intro gb192 hg w6 hbox hb; have n0_ := Aside0.mk (qo (g := gb191) (o := .cells #[.int .i64 a0_0, .int .i64 a0_1, .int .i64 a0_2, .int .u32 a0_3, .int .i64 a0_4, .int .i64 a0_5] 66 (0, 0)) (by (with_reducible repeat (first | refine qi ?_ _ | refine qk ?_ | refine qh ?_ _)); exact BK191.out) hb); have n1_ := Aside0.mk (qq (by repeat (first | (with_reducible first | exact HB.out | apply qf | apply qc | apply qe | refine qg ?_ GE191.out) | exact HB.out)) hb); have n2_ := Aside0.mk (hbox); have n3_ := Aside0.mk ((by rw [hg]; exact (qt (by repeat (first | (with_reducible first | exact HB.out | apply qf | apply qc | apply qe | refine qg ?_ GE191.out) | exact HB.out))) : w.heap.size ≤ gb192)); have n4_ := Aside0.mk ((by rw [hg]; exact (qt (by repeat (first | (with_reducible first | exact HB.out | apply qf | apply qc | apply qe | refine qg ?_ GE191.out) | exact HB.out))) : w.heap.size ≤ gb192)); have n5_ := Aside0.mk ((by rw [hg]; exact nne9 (qJ (g := gb191) (o := .cells #[.int .i64 a0_0, .int .i64 a0_1, .int .i64 a0_2, .int .u32 a0_3, .int .i64 a0_4, .int .i64 a0_5] 66 (0, 0)) (by (with_reducible repeat (first | refine qi ?_ _ | refine qk ?_ | refine qh ?_ _)); exact BK191.out)) : gb191 ≠ gb192)); have n6_ := Aside0.mk ((by rw [hg]; exact Nat.ne_of_gt (qJ (g := gb191) (o := .cells #[.int .i64 a0_0, .int .i64 a0_1, .int .i64 a0_2, .int .u32 a0_3, .int .i64 a0_4, .int .i64 a0_5] 66 (0, 0)) (by (with_reducible repeat (first | refine qi ?_ _ | refine qk ?_ | refine qh ?_ _)); exact BK191.out)) : gb192 ≠ gb191)); clear BK191; clear HB; have BK191 := n0_; have HB := n1_; have BK192 := n2_; have GW192 := n3_; have GE192 := n4_; have NB191_192 := n5_; have NB192_191 := n6_; clear n0_ n1_ n2_ n3_ n4_ n5_ n6_; clear hb hbox hg; have hnb7 := NB191_192.out; have hnc7 := NB192_191.out; have hcz8_0 : w6.cell? ⟨gb191, 0, none⟩ = some (.int .i64 a0_0) := (qb BK191.out 0).trans rfl; have hcz8_1 : w6.cell? ⟨gb191, 1, none⟩ = some (.int .i64 a0_1) := (qb BK191.out 1).trans rfl; have hcz8_2 : w6.cell? ⟨gb191, 2, none⟩ = some (.int .i64 a0_2) := (qb BK191.out 2).trans rfl; have hcz8_3 : w6.cell? ⟨gb191, 3, none⟩ = some (.int .u32 a0_3) := (qb BK191.out 3).trans rfl; have hcz8_4 : w6.cell? ⟨gb191, 4, none⟩ = some (.int .i64 a0_4) := (qb BK191.out 4).trans rfl; have hcz8_5 : w6.cell? ⟨gb191, 5, none⟩ = some (.int .i64 a0_5) := (qb BK191.out 5).trans rfl; have hfz8_0 := qa BK191.out 0; have hfz8_1 := qa BK191.out 1; have hfz8_2 := qa BK191.out 2; have hfz8_3 := qa BK191.out 3; have hfz8_4 := qa BK191.out 4; have hfz8_5 := qa BK191.out 5; have hcz9_0 : w6.cell? ⟨gb192, 0, none⟩ = some (.int .i64 a1_0) := (qb BK192.out 0).trans rfl; have hcz9_1 : w6.cell? ⟨gb192, 1, none⟩ = some (.int .i64 a1_1) := (qb BK192.out 1).trans rfl; have hcz9_2 : w6.cell? ⟨gb192, 2, none⟩ = some (.int .i64 a1_2) := (qb BK192.out 2).trans rfl; have hcz9_3 : w6.cell? ⟨gb192, 3, none⟩ = some (.int .u32 a1_3) := (qb BK192.out 3).trans rfl; have hcz9_4 : w6.cell? ⟨gb192, 4, none⟩ = some (.int .i64 a1_4) := (qb BK192.out 4).trans rfl; have hcz9_5 : w6.cell? ⟨gb192, 5, none⟩ = some (.int .i64 a1_5) := (qb BK192.out 5).trans rfl; have hfz9_0 := qa BK192.out 0; have hfz9_1 := qa BK192.out 1; have hfz9_2 := qa BK192.out 2; have hfz9_3 := qa BK192.out 3; have hfz9_4 := qa BK192.out 4; have hfz9_5 := qa BK192.out 5))
  (try simp only [Act.put, List.setIfInBounds_toArray, List.set_cons_zero, List.set_cons_succ])
  go_cut [14] (fun v14 wc => ∃ (kq : Nat) (x14_3 : Bool), v14 = .bool x14_3 ∧ Aside0 (number_Alike.j0 kq a0_0 x14_3 a0_0 a0_1 a0_2 a0_3 a0_4 a0_5 a1_0 a1_1 a1_2 a1_3 a1_4 a1_5 = some r) ∧ Aside0 (kq ≤ k) ∧ Aside0 (wc.heap[gb191]? = some (.cells #[.int .i64 a0_0, .int .i64 a0_1, .int .i64 a0_2, .int .u32 a0_3, .int .i64 a0_4, .int .i64 a0_5] 66 (0, 0))) ∧ Aside0 (wc.heap[gb192]? = some (.cells #[.int .i64 a1_0, .int .i64 a1_1, .int .i64 a1_2, .int .u32 a1_3, .int .i64 a1_4, .int .i64 a1_5] 66 (0, 0))) ∧ Aside0 (Below w.heap.size w wc))
  case first =>
   have H := HC4.out
   clear HC4
   by_cases c10 : a0_0 = 1
   ·rw [if_pos c10] at H
    have c10b0 : (a0_0 == 1) = true := beq_iff_eq.mpr c10
    have c10b1 : (a0_0 != 1) = false := bne_eq_false_iff_eq.mpr c10
    clear c10
    (first | rw [c10b0] | (simp only [i64_w, i32_w]; rw [c10b0]) | skip)
    have H' := Aside0.mk H
    clear H
    go_wp2
    go_meet
    case rel => exact ⟨_, ((a0_0 == 1)), (by first | rfl | (simp; done) | (simp [*]; done)), H', ⟨by first | omega | exact Nat.le_refl _⟩, ⟨by (with_reducible repeat (first | refine qi ?_ _ | refine qk ?_ | refine qh ?_ _)); exact BK191.out⟩, ⟨by (with_reducible repeat (first | refine qi ?_ _ | refine qk ?_ | refine qh ?_ _)); exact BK192.out⟩, ⟨by repeat (first | (with_reducible first | exact HB.out | apply qf | apply qc | apply qe | refine qg ?_ GE191.out | refine qg ?_ GE192.out) | exact HB.out)⟩⟩
   ·rw [if_neg c10] at H
    have c10b0 : (a0_0 == 1) = false := beq_eq_false_iff_ne.mpr c10
    have c10b1 : (a0_0 != 1) = true := bne_iff_ne.mpr c10
    (first | rw [c10b0] | (simp only [i64_w, i32_w]; rw [c10b0]) | skip)
    have H' := Aside0.mk H
    clear H
    go_wp2
    go_meet
    case rel => exact ⟨_, ((a0_0 == 2)), (by first | rfl | (simp; done) | (simp [*]; done)), H', ⟨by first | omega | exact Nat.le_refl _⟩, ⟨by (with_reducible repeat (first | refine qi ?_ _ | refine qk ?_ | refine qh ?_ _)); exact BK191.out⟩, ⟨by (with_reducible repeat (first | refine qi ?_ _ | refine qk ?_ | refine qh ?_ _)); exact BK192.out⟩, ⟨by repeat (first | (with_reducible first | exact HB.out | apply qf | apply qc | apply qe | refine qg ?_ GE191.out | refine qg ?_ GE192.out) | exact HB.out)⟩⟩
  case rest =>
   clear HC4
   try clear c1
   try clear p2
   try clear c3
   try clear c3b0
   try clear c3b1
   try clear c7
   try clear c10
   try clear c10b0
   try clear c10b1
   try clear hcz8_0
   try clear hcz8_1
   try clear hcz8_2
   try clear hcz8_3
   try clear hcz8_4
   try clear hcz8_5
   try clear hcz9_0
   try clear hcz9_1
   try clear hcz9_2
   try clear hcz9_3
   try clear hcz9_4
   try clear hcz9_5
   try clear hfz8_0
   try clear hfz8_1
   try clear hfz8_2
   try clear hfz8_3
   try clear hfz8_4
   try clear hfz8_5
   try clear hfz9_0
   try clear hfz9_1
   try clear hfz9_2
   try clear hfz9_3
   try clear hfz9_4
   try clear hfz9_5
   obtain ⟨kq, x14_3, rfl, HA, HJ3, BK191, BK192, HB⟩ := hcut
   cases kq with
   | zero => exact absurd HA.out (by simp [number_Alike.j0])
   | succ kj3 =>
    have H := HA.out
    clear HA
    simp only [number_Alike.j0] at H
    by_cases c11 : x14_3 = true
    ·subst c11
     have H1 : (some (a0_3 == a1_3)) = some r := by rw [if_pos rfl] at H; exact H
     clear H
     have H := H1
     clear H1
     obtain rfl := Option.some.inj H
     have hnb12 := NB191_192.out
     have hnc12 := NB192_191.out
     have hcz13_0 : wc.cell? ⟨gb191, 0, none⟩ = some (.int .i64 a0_0) := (qb BK191.out 0).trans rfl
     have hcz13_1 : wc.cell? ⟨gb191, 1, none⟩ = some (.int .i64 a0_1) := (qb BK191.out 1).trans rfl
     have hcz13_2 : wc.cell? ⟨gb191, 2, none⟩ = some (.int .i64 a0_2) := (qb BK191.out 2).trans rfl
     have hcz13_3 : wc.cell? ⟨gb191, 3, none⟩ = some (.int .u32 a0_3) := (qb BK191.out 3).trans rfl
     have hcz13_4 : wc.cell? ⟨gb191, 4, none⟩ = some (.int .i64 a0_4) := (qb BK191.out 4).trans rfl
     have hcz13_5 : wc.cell? ⟨gb191, 5, none⟩ = some (.int .i64 a0_5) := (qb BK191.out 5).trans rfl
     have hfz13_0 := qa BK191.out 0
     have hfz13_1 := qa BK191.out 1
     have hfz13_2 := qa BK191.out 2
     have hfz13_3 := qa BK191.out 3
     have hfz13_4 := qa BK191.out 4
     have hfz13_5 := qa BK191.out 5
     have hcz14_0 : wc.cell? ⟨gb192, 0, none⟩ = some (.int .i64 a1_0) := (qb BK192.out 0).trans rfl
     have hcz14_1 : wc.cell? ⟨gb192, 1, none⟩ = some (.int .i64 a1_1) := (qb BK192.out 1).trans rfl
     have hcz14_2 : wc.cell? ⟨gb192, 2, none⟩ = some (.int .i64 a1_2) := (qb BK192.out 2).trans rfl
     have hcz14_3 : wc.cell? ⟨gb192, 3, none⟩ = some (.int .u32 a1_3) := (qb BK192.out 3).trans rfl
     have hcz14_4 : wc.cell? ⟨gb192, 4, none⟩ = some (.int .i64 a1_4) := (qb BK192.out 4).trans rfl
     have hcz14_5 : wc.cell? ⟨gb192, 5, none⟩ = some (.int .i64 a1_5) := (qb BK192.out 5).trans rfl
     have hfz14_0 := qa BK192.out 0
     have hfz14_1 := qa BK192.out 1
     have hfz14_2 := qa BK192.out 2
     have hfz14_3 := qa BK192.out 3
     have hfz14_4 := qa BK192.out 4
     have hfz14_5 := qa BK192.out 5
     go_wp2
     go_ret
     exact ⟨by first | rfl | (simp [qm, qn] <;> rfl) | (simp [*, qm, qn] <;> rfl), by repeat (first | (with_reducible first | exact HB.out | apply qf | apply qc | apply qe | refine qg ?_ GE191.out | refine qg ?_ GE192.out) | exact HB.out)⟩
    ·replace c11 := Bool.eq_false_iff.mpr c11
     subst c11
     have H1 : (if a0_0 = 4 then (if a0_3 = a1_3 then (some (a0_1 == a1_1)) else (some false)) else (if a0_0 = 3 then ((number_plain.f a0_3).bind fun t193 => (if a0_1 = a1_1 then ((number_plain.f a1_3).bind fun t194 => (if t193 = t194 then (if a0_2 = a1_2 then (some true) else ((number_turns.f t193).bind fun t195 => (if t195 = true then (if a0_1 = a1_2 then (some (a0_2 == a1_1)) else (some false)) else (some false)))) else (some false))) else ((number_plain.f a1_3).bind fun t196 => (if t193 = t196 then ((number_turns.f t193).bind fun t197 => (if t197 = true then (if a0_1 = a1_2 then (some (a0_2 == a1_1)) else (some false)) else (some false))) else (some false))))) else (some false))) = some r := by rw [if_neg (show ¬ (false = true) by decide)] at H; exact H
     clear H
     have H := H1
     clear H1
     by_cases c15 : a0_0 = 4
     ·rw [if_pos c15] at H
      have c15b0 : (a0_0 == 4) = true := beq_iff_eq.mpr c15
      have c15b1 : (a0_0 != 4) = false := bne_eq_false_iff_eq.mpr c15
      clear c15
      by_cases c16 : a0_3 = a1_3
      ·rw [if_pos c16] at H
       have c16b0 : (a0_3 == a1_3) = true := beq_iff_eq.mpr c16
       have c16b1 : (a0_3 != a1_3) = false := bne_eq_false_iff_eq.mpr c16
       clear c16
       obtain rfl := Option.some.inj H
       have hnb17 := NB191_192.out
       have hnc17 := NB192_191.out
       have hcz18_0 : wc.cell? ⟨gb191, 0, none⟩ = some (.int .i64 a0_0) := (qb BK191.out 0).trans rfl
       have hcz18_1 : wc.cell? ⟨gb191, 1, none⟩ = some (.int .i64 a0_1) := (qb BK191.out 1).trans rfl
       have hcz18_2 : wc.cell? ⟨gb191, 2, none⟩ = some (.int .i64 a0_2) := (qb BK191.out 2).trans rfl
       have hcz18_3 : wc.cell? ⟨gb191, 3, none⟩ = some (.int .u32 a0_3) := (qb BK191.out 3).trans rfl
       have hcz18_4 : wc.cell? ⟨gb191, 4, none⟩ = some (.int .i64 a0_4) := (qb BK191.out 4).trans rfl
       have hcz18_5 : wc.cell? ⟨gb191, 5, none⟩ = some (.int .i64 a0_5) := (qb BK191.out 5).trans rfl
       have hfz18_0 := qa BK191.out 0
       have hfz18_1 := qa BK191.out 1
       have hfz18_2 := qa BK191.out 2
       have hfz18_3 := qa BK191.out 3
       have hfz18_4 := qa BK191.out 4
       have hfz18_5 := qa BK191.out 5
       have hcz19_0 : wc.cell? ⟨gb192, 0, none⟩ = some (.int .i64 a1_0) := (qb BK192.out 0).trans rfl
       have hcz19_1 : wc.cell? ⟨gb192, 1, none⟩ = some (.int .i64 a1_1) := (qb BK192.out 1).trans rfl
       have hcz19_2 : wc.cell? ⟨gb192, 2, none⟩ = some (.int .i64 a1_2) := (qb BK192.out 2).trans rfl
       have hcz19_3 : wc.cell? ⟨gb192, 3, none⟩ = some (.int .u32 a1_3) := (qb BK192.out 3).trans rfl
       have hcz19_4 : wc.cell? ⟨gb192, 4, none⟩ = some (.int .i64 a1_4) := (qb BK192.out 4).trans rfl
       have hcz19_5 : wc.cell? ⟨gb192, 5, none⟩ = some (.int .i64 a1_5) := (qb BK192.out 5).trans rfl
       have hfz19_0 := qa BK192.out 0
       have hfz19_1 := qa BK192.out 1
       have hfz19_2 := qa BK192.out 2
       have hfz19_3 := qa BK192.out 3
       have hfz19_4 := qa BK192.out 4
       have hfz19_5 := qa BK192.out 5
       go_wp2
       go_ret
       exact ⟨by first | rfl | (simp [qm, qn] <;> rfl) | (simp [*, qm, qn] <;> rfl), by repeat (first | (with_reducible first | exact HB.out | apply qf | apply qc | apply qe | refine qg ?_ GE191.out | refine qg ?_ GE192.out) | exact HB.out)⟩
      ·rw [if_neg c16] at H
       have c16b0 : (a0_3 == a1_3) = false := beq_eq_false_iff_ne.mpr c16
       have c16b1 : (a0_3 != a1_3) = true := bne_iff_ne.mpr c16
       obtain rfl := Option.some.inj H
       have hnb20 := NB191_192.out
       have hnc20 := NB192_191.out
       have hcz21_0 : wc.cell? ⟨gb191, 0, none⟩ = some (.int .i64 a0_0) := (qb BK191.out 0).trans rfl
       have hcz21_1 : wc.cell? ⟨gb191, 1, none⟩ = some (.int .i64 a0_1) := (qb BK191.out 1).trans rfl
       have hcz21_2 : wc.cell? ⟨gb191, 2, none⟩ = some (.int .i64 a0_2) := (qb BK191.out 2).trans rfl
       have hcz21_3 : wc.cell? ⟨gb191, 3, none⟩ = some (.int .u32 a0_3) := (qb BK191.out 3).trans rfl
       have hcz21_4 : wc.cell? ⟨gb191, 4, none⟩ = some (.int .i64 a0_4) := (qb BK191.out 4).trans rfl
       have hcz21_5 : wc.cell? ⟨gb191, 5, none⟩ = some (.int .i64 a0_5) := (qb BK191.out 5).trans rfl
       have hfz21_0 := qa BK191.out 0
       have hfz21_1 := qa BK191.out 1
       have hfz21_2 := qa BK191.out 2
       have hfz21_3 := qa BK191.out 3
       have hfz21_4 := qa BK191.out 4
       have hfz21_5 := qa BK191.out 5
       have hcz22_0 : wc.cell? ⟨gb192, 0, none⟩ = some (.int .i64 a1_0) := (qb BK192.out 0).trans rfl
       have hcz22_1 : wc.cell? ⟨gb192, 1, none⟩ = some (.int .i64 a1_1) := (qb BK192.out 1).trans rfl
       have hcz22_2 : wc.cell? ⟨gb192, 2, none⟩ = some (.int .i64 a1_2) := (qb BK192.out 2).trans rfl
       have hcz22_3 : wc.cell? ⟨gb192, 3, none⟩ = some (.int .u32 a1_3) := (qb BK192.out 3).trans rfl
       have hcz22_4 : wc.cell? ⟨gb192, 4, none⟩ = some (.int .i64 a1_4) := (qb BK192.out 4).trans rfl
       have hcz22_5 : wc.cell? ⟨gb192, 5, none⟩ = some (.int .i64 a1_5) := (qb BK192.out 5).trans rfl
       have hfz22_0 := qa BK192.out 0
       have hfz22_1 := qa BK192.out 1
       have hfz22_2 := qa BK192.out 2
       have hfz22_3 := qa BK192.out 3
       have hfz22_4 := qa BK192.out 4
       have hfz22_5 := qa BK192.out 5
       go_wp2
       go_ret
       exact ⟨by first | rfl | (simp [qm, qn] <;> rfl) | (simp [*, qm, qn] <;> rfl), by repeat (first | (with_reducible first | exact HB.out | apply qf | apply qc | apply qe | refine qg ?_ GE191.out | refine qg ?_ GE192.out) | exact HB.out)⟩
     ·rw [if_neg c15] at H
      have c15b0 : (a0_0 == 4) = false := beq_eq_false_iff_ne.mpr c15
      have c15b1 : (a0_0 != 4) = true := bne_iff_ne.mpr c15
      by_cases c23 : a0_0 = 3
      ·rw [if_pos c23] at H
       have c23b0 : (a0_0 == 3) = true := beq_iff_eq.mpr c23
       have c23b1 : (a0_0 != 3) = false := bne_eq_false_iff_eq.mpr c23
       clear c23
       replace H := Option.bind_eq_some_iff.mp H
       obtain ⟨t193, A240, H⟩ := H
       replace H : (if a0_1 = a1_1 then ((number_plain.f a1_3).bind fun t194 => (if t193 = t194 then (if a0_2 = a1_2 then (some true) else ((number_turns.f t193).bind fun t195 => (if t195 = true then (if a0_1 = a1_2 then (some (a0_2 == a1_1)) else (some false)) else (some false)))) else (some false))) else ((number_plain.f a1_3).bind fun t196 => (if t193 = t196 then ((number_turns.f t193).bind fun t197 => (if t197 = true then (if a0_1 = a1_2 then (some (a0_2 == a1_1)) else (some false)) else (some false))) else (some false)))) = some r := H
       have A24 := Aside0.mk A240
       clear A240
       by_cases c25 : a0_1 = a1_1
       ·rw [if_pos c25] at H
        have c25b0 : (a0_1 == a1_1) = true := beq_iff_eq.mpr c25
        have c25b1 : (a0_1 != a1_1) = false := bne_eq_false_iff_eq.mpr c25
        clear c25
        replace H := Option.bind_eq_some_iff.mp H
        obtain ⟨t194, A260, H⟩ := H
        replace H : (if t193 = t194 then (if a0_2 = a1_2 then (some true) else ((number_turns.f t193).bind fun t195 => (if t195 = true then (if a0_1 = a1_2 then (some (a0_2 == a1_1)) else (some false)) else (some false)))) else (some false)) = some r := H
        have A26 := Aside0.mk A260
        clear A260
        by_cases c27 : t193 = t194
        ·rw [if_pos c27] at H
         have c27b0 : (t193 == t194) = true := beq_iff_eq.mpr c27
         have c27b1 : (t193 != t194) = false := bne_eq_false_iff_eq.mpr c27
         clear c27
         by_cases c28 : a0_2 = a1_2
         ·rw [if_pos c28] at H
          have c28b0 : (a0_2 == a1_2) = true := beq_iff_eq.mpr c28
          have c28b1 : (a0_2 != a1_2) = false := bne_eq_false_iff_eq.mpr c28
          clear c28
          obtain rfl := Option.some.inj H
          have hnb29 := NB191_192.out
          have hnc29 := NB192_191.out
          have hcz30_0 : wc.cell? ⟨gb191, 0, none⟩ = some (.int .i64 a0_0) := (qb BK191.out 0).trans rfl
          have hcz30_1 : wc.cell? ⟨gb191, 1, none⟩ = some (.int .i64 a0_1) := (qb BK191.out 1).trans rfl
          have hcz30_2 : wc.cell? ⟨gb191, 2, none⟩ = some (.int .i64 a0_2) := (qb BK191.out 2).trans rfl
          have hcz30_3 : wc.cell? ⟨gb191, 3, none⟩ = some (.int .u32 a0_3) := (qb BK191.out 3).trans rfl
          have hcz30_4 : wc.cell? ⟨gb191, 4, none⟩ = some (.int .i64 a0_4) := (qb BK191.out 4).trans rfl
          have hcz30_5 : wc.cell? ⟨gb191, 5, none⟩ = some (.int .i64 a0_5) := (qb BK191.out 5).trans rfl
          have hfz30_0 := qa BK191.out 0
          have hfz30_1 := qa BK191.out 1
          have hfz30_2 := qa BK191.out 2
          have hfz30_3 := qa BK191.out 3
          have hfz30_4 := qa BK191.out 4
          have hfz30_5 := qa BK191.out 5
          go_wp2_with (first | ((with_reducible refine qw (f := 119) rfl ?_); refine qE (some 40) rfl rfl Try.func119 (by kernel_rfl) rfl #[.int .u32 a0_3] rfl (by (try simp only [List.map_toArray, List.map_cons, List.map_nil]); first | done | rfl | (simp only [List.length_drop, List.length_take]; rfl)) ?_; (with_reducible refine (number_plain.calls a0_3 t193 _ A24.out).mono ?_); rintro e w' ⟨rfl, ⟨nd, rfl⟩⟩; refine ⟨_, rfl, ?_⟩; have hcz31_0 : wc.cell? ⟨gb192, 0, none⟩ = some (.int .i64 a1_0) := (qb BK192.out 0).trans rfl; have hcz31_1 : wc.cell? ⟨gb192, 1, none⟩ = some (.int .i64 a1_1) := (qb BK192.out 1).trans rfl; have hcz31_2 : wc.cell? ⟨gb192, 2, none⟩ = some (.int .i64 a1_2) := (qb BK192.out 2).trans rfl; have hcz31_3 : wc.cell? ⟨gb192, 3, none⟩ = some (.int .u32 a1_3) := (qb BK192.out 3).trans rfl; have hcz31_4 : wc.cell? ⟨gb192, 4, none⟩ = some (.int .i64 a1_4) := (qb BK192.out 4).trans rfl; have hcz31_5 : wc.cell? ⟨gb192, 5, none⟩ = some (.int .i64 a1_5) := (qb BK192.out 5).trans rfl; have hfz31_0 := qa BK192.out 0; have hfz31_1 := qa BK192.out 1; have hfz31_2 := qa BK192.out 2; have hfz31_3 := qa BK192.out 3; have hfz31_4 := qa BK192.out 4; have hfz31_5 := qa BK192.out 5) | ((with_reducible refine qw (f := 119) rfl ?_); refine qE (some 56) rfl rfl Try.func119 (by kernel_rfl) rfl #[.int .u32 a1_3] rfl (by (try simp only [List.map_toArray, List.map_cons, List.map_nil]); first | done | rfl | (simp only [List.length_drop, List.length_take]; rfl)) ?_; (with_reducible refine (number_plain.calls a1_3 t194 _ A26.out).mono ?_); rintro e w' ⟨rfl, ⟨nd, rfl⟩⟩; refine ⟨_, rfl, ?_⟩))
          go_ret
          exact ⟨by first | rfl | (simp [qm, qn] <;> rfl) | (simp [*, qm, qn] <;> rfl), by repeat (first | (with_reducible first | exact HB.out | apply qf | apply qc | apply qe | refine qg ?_ GE191.out | refine qg ?_ GE192.out) | exact HB.out)⟩
         ·rw [if_neg c28] at H
          have c28b0 : (a0_2 == a1_2) = false := beq_eq_false_iff_ne.mpr c28
          have c28b1 : (a0_2 != a1_2) = true := bne_iff_ne.mpr c28
          replace H := Option.bind_eq_some_iff.mp H
          obtain ⟨t195, A320, H⟩ := H
          replace H : (if t195 = true then (if a0_1 = a1_2 then (some (a0_2 == a1_1)) else (some false)) else (some false)) = some r := H
          have A32 := Aside0.mk A320
          clear A320
          by_cases c33 : t195 = true
          ·subst c33
           have H1 : (if a0_1 = a1_2 then (some (a0_2 == a1_1)) else (some false)) = some r := by rw [if_pos rfl] at H; exact H
           clear H
           have H := H1
           clear H1
           by_cases c34 : a0_1 = a1_2
           ·rw [if_pos c34] at H
            have c34b0 : (a0_1 == a1_2) = true := beq_iff_eq.mpr c34
            have c34b1 : (a0_1 != a1_2) = false := bne_eq_false_iff_eq.mpr c34
            clear c34
            obtain rfl := Option.some.inj H
            have hnb35 := NB191_192.out
            have hnc35 := NB192_191.out
            have hcz36_0 : wc.cell? ⟨gb191, 0, none⟩ = some (.int .i64 a0_0) := (qb BK191.out 0).trans rfl
            have hcz36_1 : wc.cell? ⟨gb191, 1, none⟩ = some (.int .i64 a0_1) := (qb BK191.out 1).trans rfl
            have hcz36_2 : wc.cell? ⟨gb191, 2, none⟩ = some (.int .i64 a0_2) := (qb BK191.out 2).trans rfl
            have hcz36_3 : wc.cell? ⟨gb191, 3, none⟩ = some (.int .u32 a0_3) := (qb BK191.out 3).trans rfl
            have hcz36_4 : wc.cell? ⟨gb191, 4, none⟩ = some (.int .i64 a0_4) := (qb BK191.out 4).trans rfl
            have hcz36_5 : wc.cell? ⟨gb191, 5, none⟩ = some (.int .i64 a0_5) := (qb BK191.out 5).trans rfl
            have hfz36_0 := qa BK191.out 0
            have hfz36_1 := qa BK191.out 1
            have hfz36_2 := qa BK191.out 2
            have hfz36_3 := qa BK191.out 3
            have hfz36_4 := qa BK191.out 4
            have hfz36_5 := qa BK191.out 5
            go_wp2_with (first | ((with_reducible refine qw (f := 119) rfl ?_); refine qE (some 40) rfl rfl Try.func119 (by kernel_rfl) rfl #[.int .u32 a0_3] rfl (by (try simp only [List.map_toArray, List.map_cons, List.map_nil]); first | done | rfl | (simp only [List.length_drop, List.length_take]; rfl)) ?_; (with_reducible refine (number_plain.calls a0_3 t193 _ A24.out).mono ?_); rintro e w' ⟨rfl, ⟨nd, rfl⟩⟩; refine ⟨_, rfl, ?_⟩; have hcz37_0 : wc.cell? ⟨gb192, 0, none⟩ = some (.int .i64 a1_0) := (qb BK192.out 0).trans rfl; have hcz37_1 : wc.cell? ⟨gb192, 1, none⟩ = some (.int .i64 a1_1) := (qb BK192.out 1).trans rfl; have hcz37_2 : wc.cell? ⟨gb192, 2, none⟩ = some (.int .i64 a1_2) := (qb BK192.out 2).trans rfl; have hcz37_3 : wc.cell? ⟨gb192, 3, none⟩ = some (.int .u32 a1_3) := (qb BK192.out 3).trans rfl; have hcz37_4 : wc.cell? ⟨gb192, 4, none⟩ = some (.int .i64 a1_4) := (qb BK192.out 4).trans rfl; have hcz37_5 : wc.cell? ⟨gb192, 5, none⟩ = some (.int .i64 a1_5) := (qb BK192.out 5).trans rfl; have hfz37_0 := qa BK192.out 0; have hfz37_1 := qa BK192.out 1; have hfz37_2 := qa BK192.out 2; have hfz37_3 := qa BK192.out 3; have hfz37_4 := qa BK192.out 4; have hfz37_5 := qa BK192.out 5) | ((with_reducible refine qw (f := 119) rfl ?_); refine qE (some 56) rfl rfl Try.func119 (by kernel_rfl) rfl #[.int .u32 a1_3] rfl (by (try simp only [List.map_toArray, List.map_cons, List.map_nil]); first | done | rfl | (simp only [List.length_drop, List.length_take]; rfl)) ?_; (with_reducible refine (number_plain.calls a1_3 t194 _ A26.out).mono ?_); rintro e w' ⟨rfl, ⟨nd, rfl⟩⟩; refine ⟨_, rfl, ?_⟩) | (go_at_call 120; (with_reducible refine (number_turns.calls t193 true _ A32.out).mono ?_); rintro e w' ⟨rfl, ⟨nd, rfl⟩⟩))
            go_ret
            exact ⟨by first | rfl | (simp [qm, qn] <;> rfl) | (simp [*, qm, qn] <;> rfl), by repeat (first | (with_reducible first | exact HB.out | apply qf | apply qc | apply qe | refine qg ?_ GE191.out | refine qg ?_ GE192.out) | exact HB.out)⟩
           ·rw [if_neg c34] at H
            have c34b0 : (a0_1 == a1_2) = false := beq_eq_false_iff_ne.mpr c34
            have c34b1 : (a0_1 != a1_2) = true := bne_iff_ne.mpr c34
            obtain rfl := Option.some.inj H
            have hnb38 := NB191_192.out
            have hnc38 := NB192_191.out
            have hcz39_0 : wc.cell? ⟨gb191, 0, none⟩ = some (.int .i64 a0_0) := (qb BK191.out 0).trans rfl
            have hcz39_1 : wc.cell? ⟨gb191, 1, none⟩ = some (.int .i64 a0_1) := (qb BK191.out 1).trans rfl
            have hcz39_2 : wc.cell? ⟨gb191, 2, none⟩ = some (.int .i64 a0_2) := (qb BK191.out 2).trans rfl
            have hcz39_3 : wc.cell? ⟨gb191, 3, none⟩ = some (.int .u32 a0_3) := (qb BK191.out 3).trans rfl
            have hcz39_4 : wc.cell? ⟨gb191, 4, none⟩ = some (.int .i64 a0_4) := (qb BK191.out 4).trans rfl
            have hcz39_5 : wc.cell? ⟨gb191, 5, none⟩ = some (.int .i64 a0_5) := (qb BK191.out 5).trans rfl
            have hfz39_0 := qa BK191.out 0
            have hfz39_1 := qa BK191.out 1
            have hfz39_2 := qa BK191.out 2
            have hfz39_3 := qa BK191.out 3
            have hfz39_4 := qa BK191.out 4
            have hfz39_5 := qa BK191.out 5
            go_wp2_with (first | ((with_reducible refine qw (f := 119) rfl ?_); refine qE (some 40) rfl rfl Try.func119 (by kernel_rfl) rfl #[.int .u32 a0_3] rfl (by (try simp only [List.map_toArray, List.map_cons, List.map_nil]); first | done | rfl | (simp only [List.length_drop, List.length_take]; rfl)) ?_; (with_reducible refine (number_plain.calls a0_3 t193 _ A24.out).mono ?_); rintro e w' ⟨rfl, ⟨nd, rfl⟩⟩; refine ⟨_, rfl, ?_⟩; have hcz40_0 : wc.cell? ⟨gb192, 0, none⟩ = some (.int .i64 a1_0) := (qb BK192.out 0).trans rfl; have hcz40_1 : wc.cell? ⟨gb192, 1, none⟩ = some (.int .i64 a1_1) := (qb BK192.out 1).trans rfl; have hcz40_2 : wc.cell? ⟨gb192, 2, none⟩ = some (.int .i64 a1_2) := (qb BK192.out 2).trans rfl; have hcz40_3 : wc.cell? ⟨gb192, 3, none⟩ = some (.int .u32 a1_3) := (qb BK192.out 3).trans rfl; have hcz40_4 : wc.cell? ⟨gb192, 4, none⟩ = some (.int .i64 a1_4) := (qb BK192.out 4).trans rfl; have hcz40_5 : wc.cell? ⟨gb192, 5, none⟩ = some (.int .i64 a1_5) := (qb BK192.out 5).trans rfl; have hfz40_0 := qa BK192.out 0; have hfz40_1 := qa BK192.out 1; have hfz40_2 := qa BK192.out 2; have hfz40_3 := qa BK192.out 3; have hfz40_4 := qa BK192.out 4; have hfz40_5 := qa BK192.out 5) | ((with_reducible refine qw (f := 119) rfl ?_); refine qE (some 56) rfl rfl Try.func119 (by kernel_rfl) rfl #[.int .u32 a1_3] rfl (by (try simp only [List.map_toArray, List.map_cons, List.map_nil]); first | done | rfl | (simp only [List.length_drop, List.length_take]; rfl)) ?_; (with_reducible refine (number_plain.calls a1_3 t194 _ A26.out).mono ?_); rintro e w' ⟨rfl, ⟨nd, rfl⟩⟩; refine ⟨_, rfl, ?_⟩) | (go_at_call 120; (with_reducible refine (number_turns.calls t193 true _ A32.out).mono ?_); rintro e w' ⟨rfl, ⟨nd, rfl⟩⟩))
            go_ret
            exact ⟨by first | rfl | (simp [qm, qn] <;> rfl) | (simp [*, qm, qn] <;> rfl), by repeat (first | (with_reducible first | exact HB.out | apply qf | apply qc | apply qe | refine qg ?_ GE191.out | refine qg ?_ GE192.out) | exact HB.out)⟩
          ·replace c33 := Bool.eq_false_iff.mpr c33
           subst c33
           have H1 : (some false) = some r := by rw [if_neg (show ¬ (false = true) by decide)] at H; exact H
           clear H
           have H := H1
           clear H1
           obtain rfl := Option.some.inj H
           have hnb41 := NB191_192.out
           have hnc41 := NB192_191.out
           have hcz42_0 : wc.cell? ⟨gb191, 0, none⟩ = some (.int .i64 a0_0) := (qb BK191.out 0).trans rfl
           have hcz42_1 : wc.cell? ⟨gb191, 1, none⟩ = some (.int .i64 a0_1) := (qb BK191.out 1).trans rfl
           have hcz42_2 : wc.cell? ⟨gb191, 2, none⟩ = some (.int .i64 a0_2) := (qb BK191.out 2).trans rfl
           have hcz42_3 : wc.cell? ⟨gb191, 3, none⟩ = some (.int .u32 a0_3) := (qb BK191.out 3).trans rfl
           have hcz42_4 : wc.cell? ⟨gb191, 4, none⟩ = some (.int .i64 a0_4) := (qb BK191.out 4).trans rfl
           have hcz42_5 : wc.cell? ⟨gb191, 5, none⟩ = some (.int .i64 a0_5) := (qb BK191.out 5).trans rfl
           have hfz42_0 := qa BK191.out 0
           have hfz42_1 := qa BK191.out 1
           have hfz42_2 := qa BK191.out 2
           have hfz42_3 := qa BK191.out 3
           have hfz42_4 := qa BK191.out 4
           have hfz42_5 := qa BK191.out 5
           go_wp2_with (first | ((with_reducible refine qw (f := 119) rfl ?_); refine qE (some 40) rfl rfl Try.func119 (by kernel_rfl) rfl #[.int .u32 a0_3] rfl (by (try simp only [List.map_toArray, List.map_cons, List.map_nil]); first | done | rfl | (simp only [List.length_drop, List.length_take]; rfl)) ?_; (with_reducible refine (number_plain.calls a0_3 t193 _ A24.out).mono ?_); rintro e w' ⟨rfl, ⟨nd, rfl⟩⟩; refine ⟨_, rfl, ?_⟩; have hcz43_0 : wc.cell? ⟨gb192, 0, none⟩ = some (.int .i64 a1_0) := (qb BK192.out 0).trans rfl; have hcz43_1 : wc.cell? ⟨gb192, 1, none⟩ = some (.int .i64 a1_1) := (qb BK192.out 1).trans rfl; have hcz43_2 : wc.cell? ⟨gb192, 2, none⟩ = some (.int .i64 a1_2) := (qb BK192.out 2).trans rfl; have hcz43_3 : wc.cell? ⟨gb192, 3, none⟩ = some (.int .u32 a1_3) := (qb BK192.out 3).trans rfl; have hcz43_4 : wc.cell? ⟨gb192, 4, none⟩ = some (.int .i64 a1_4) := (qb BK192.out 4).trans rfl; have hcz43_5 : wc.cell? ⟨gb192, 5, none⟩ = some (.int .i64 a1_5) := (qb BK192.out 5).trans rfl; have hfz43_0 := qa BK192.out 0; have hfz43_1 := qa BK192.out 1; have hfz43_2 := qa BK192.out 2; have hfz43_3 := qa BK192.out 3; have hfz43_4 := qa BK192.out 4; have hfz43_5 := qa BK192.out 5) | ((with_reducible refine qw (f := 119) rfl ?_); refine qE (some 56) rfl rfl Try.func119 (by kernel_rfl) rfl #[.int .u32 a1_3] rfl (by (try simp only [List.map_toArray, List.map_cons, List.map_nil]); first | done | rfl | (simp only [List.length_drop, List.length_take]; rfl)) ?_; (with_reducible refine (number_plain.calls a1_3 t194 _ A26.out).mono ?_); rintro e w' ⟨rfl, ⟨nd, rfl⟩⟩; refine ⟨_, rfl, ?_⟩) | (go_at_call 120; (with_reducible refine (number_turns.calls t193 false _ A32.out).mono ?_); rintro e w' ⟨rfl, ⟨nd, rfl⟩⟩))
           go_ret
           exact ⟨by first | rfl | (simp [qm, qn] <;> rfl) | (simp [*, qm, qn] <;> rfl), by repeat (first | (with_reducible first | exact HB.out | apply qf | apply qc | apply qe | refine qg ?_ GE191.out | refine qg ?_ GE192.out) | exact HB.out)⟩
        ·rw [if_neg c27] at H
         have c27b0 : (t193 == t194) = false := beq_eq_false_iff_ne.mpr c27
         have c27b1 : (t193 != t194) = true := bne_iff_ne.mpr c27
         obtain rfl := Option.some.inj H
         have hnb44 := NB191_192.out
         have hnc44 := NB192_191.out
         have hcz45_0 : wc.cell? ⟨gb191, 0, none⟩ = some (.int .i64 a0_0) := (qb BK191.out 0).trans rfl
         have hcz45_1 : wc.cell? ⟨gb191, 1, none⟩ = some (.int .i64 a0_1) := (qb BK191.out 1).trans rfl
         have hcz45_2 : wc.cell? ⟨gb191, 2, none⟩ = some (.int .i64 a0_2) := (qb BK191.out 2).trans rfl
         have hcz45_3 : wc.cell? ⟨gb191, 3, none⟩ = some (.int .u32 a0_3) := (qb BK191.out 3).trans rfl
         have hcz45_4 : wc.cell? ⟨gb191, 4, none⟩ = some (.int .i64 a0_4) := (qb BK191.out 4).trans rfl
         have hcz45_5 : wc.cell? ⟨gb191, 5, none⟩ = some (.int .i64 a0_5) := (qb BK191.out 5).trans rfl
         have hfz45_0 := qa BK191.out 0
         have hfz45_1 := qa BK191.out 1
         have hfz45_2 := qa BK191.out 2
         have hfz45_3 := qa BK191.out 3
         have hfz45_4 := qa BK191.out 4
         have hfz45_5 := qa BK191.out 5
         go_wp2_with (first | ((with_reducible refine qw (f := 119) rfl ?_); refine qE (some 40) rfl rfl Try.func119 (by kernel_rfl) rfl #[.int .u32 a0_3] rfl (by (try simp only [List.map_toArray, List.map_cons, List.map_nil]); first | done | rfl | (simp only [List.length_drop, List.length_take]; rfl)) ?_; (with_reducible refine (number_plain.calls a0_3 t193 _ A24.out).mono ?_); rintro e w' ⟨rfl, ⟨nd, rfl⟩⟩; refine ⟨_, rfl, ?_⟩; have hcz46_0 : wc.cell? ⟨gb192, 0, none⟩ = some (.int .i64 a1_0) := (qb BK192.out 0).trans rfl; have hcz46_1 : wc.cell? ⟨gb192, 1, none⟩ = some (.int .i64 a1_1) := (qb BK192.out 1).trans rfl; have hcz46_2 : wc.cell? ⟨gb192, 2, none⟩ = some (.int .i64 a1_2) := (qb BK192.out 2).trans rfl; have hcz46_3 : wc.cell? ⟨gb192, 3, none⟩ = some (.int .u32 a1_3) := (qb BK192.out 3).trans rfl; have hcz46_4 : wc.cell? ⟨gb192, 4, none⟩ = some (.int .i64 a1_4) := (qb BK192.out 4).trans rfl; have hcz46_5 : wc.cell? ⟨gb192, 5, none⟩ = some (.int .i64 a1_5) := (qb BK192.out 5).trans rfl; have hfz46_0 := qa BK192.out 0; have hfz46_1 := qa BK192.out 1; have hfz46_2 := qa BK192.out 2; have hfz46_3 := qa BK192.out 3; have hfz46_4 := qa BK192.out 4; have hfz46_5 := qa BK192.out 5) | ((with_reducible refine qw (f := 119) rfl ?_); refine qE (some 56) rfl rfl Try.func119 (by kernel_rfl) rfl #[.int .u32 a1_3] rfl (by (try simp only [List.map_toArray, List.map_cons, List.map_nil]); first | done | rfl | (simp only [List.length_drop, List.length_take]; rfl)) ?_; (with_reducible refine (number_plain.calls a1_3 t194 _ A26.out).mono ?_); rintro e w' ⟨rfl, ⟨nd, rfl⟩⟩; refine ⟨_, rfl, ?_⟩))
         go_ret
         exact ⟨by first | rfl | (simp [qm, qn] <;> rfl) | (simp [*, qm, qn] <;> rfl), by repeat (first | (with_reducible first | exact HB.out | apply qf | apply qc | apply qe | refine qg ?_ GE191.out | refine qg ?_ GE192.out) | exact HB.out)⟩
       ·rw [if_neg c25] at H
        have c25b0 : (a0_1 == a1_1) = false := beq_eq_false_iff_ne.mpr c25
        have c25b1 : (a0_1 != a1_1) = true := bne_iff_ne.mpr c25
        replace H := Option.bind_eq_some_iff.mp H
        obtain ⟨t196, A470, H⟩ := H
        replace H : (if t193 = t196 then ((number_turns.f t193).bind fun t197 => (if t197 = true then (if a0_1 = a1_2 then (some (a0_2 == a1_1)) else (some false)) else (some false))) else (some false)) = some r := H
        have A47 := Aside0.mk A470
        clear A470
        by_cases c48 : t193 = t196
        ·rw [if_pos c48] at H
         have c48b0 : (t193 == t196) = true := beq_iff_eq.mpr c48
         have c48b1 : (t193 != t196) = false := bne_eq_false_iff_eq.mpr c48
         clear c48
         replace H := Option.bind_eq_some_iff.mp H
         obtain ⟨t197, A490, H⟩ := H
         replace H : (if t197 = true then (if a0_1 = a1_2 then (some (a0_2 == a1_1)) else (some false)) else (some false)) = some r := H
         have A49 := Aside0.mk A490
         clear A490
         by_cases c50 : t197 = true
         ·subst c50
          have H1 : (if a0_1 = a1_2 then (some (a0_2 == a1_1)) else (some false)) = some r := by rw [if_pos rfl] at H; exact H
          clear H
          have H := H1
          clear H1
          by_cases c51 : a0_1 = a1_2
          ·rw [if_pos c51] at H
           have c51b0 : (a0_1 == a1_2) = true := beq_iff_eq.mpr c51
           have c51b1 : (a0_1 != a1_2) = false := bne_eq_false_iff_eq.mpr c51
           clear c51
           obtain rfl := Option.some.inj H
           have hnb52 := NB191_192.out
           have hnc52 := NB192_191.out
           have hcz53_0 : wc.cell? ⟨gb191, 0, none⟩ = some (.int .i64 a0_0) := (qb BK191.out 0).trans rfl
           have hcz53_1 : wc.cell? ⟨gb191, 1, none⟩ = some (.int .i64 a0_1) := (qb BK191.out 1).trans rfl
           have hcz53_2 : wc.cell? ⟨gb191, 2, none⟩ = some (.int .i64 a0_2) := (qb BK191.out 2).trans rfl
           have hcz53_3 : wc.cell? ⟨gb191, 3, none⟩ = some (.int .u32 a0_3) := (qb BK191.out 3).trans rfl
           have hcz53_4 : wc.cell? ⟨gb191, 4, none⟩ = some (.int .i64 a0_4) := (qb BK191.out 4).trans rfl
           have hcz53_5 : wc.cell? ⟨gb191, 5, none⟩ = some (.int .i64 a0_5) := (qb BK191.out 5).trans rfl
           have hfz53_0 := qa BK191.out 0
           have hfz53_1 := qa BK191.out 1
           have hfz53_2 := qa BK191.out 2
           have hfz53_3 := qa BK191.out 3
           have hfz53_4 := qa BK191.out 4
           have hfz53_5 := qa BK191.out 5
           go_wp2_with (first | ((with_reducible refine qw (f := 119) rfl ?_); refine qE (some 40) rfl rfl Try.func119 (by kernel_rfl) rfl #[.int .u32 a0_3] rfl (by (try simp only [List.map_toArray, List.map_cons, List.map_nil]); first | done | rfl | (simp only [List.length_drop, List.length_take]; rfl)) ?_; (with_reducible refine (number_plain.calls a0_3 t193 _ A24.out).mono ?_); rintro e w' ⟨rfl, ⟨nd, rfl⟩⟩; refine ⟨_, rfl, ?_⟩; have hcz54_0 : wc.cell? ⟨gb192, 0, none⟩ = some (.int .i64 a1_0) := (qb BK192.out 0).trans rfl; have hcz54_1 : wc.cell? ⟨gb192, 1, none⟩ = some (.int .i64 a1_1) := (qb BK192.out 1).trans rfl; have hcz54_2 : wc.cell? ⟨gb192, 2, none⟩ = some (.int .i64 a1_2) := (qb BK192.out 2).trans rfl; have hcz54_3 : wc.cell? ⟨gb192, 3, none⟩ = some (.int .u32 a1_3) := (qb BK192.out 3).trans rfl; have hcz54_4 : wc.cell? ⟨gb192, 4, none⟩ = some (.int .i64 a1_4) := (qb BK192.out 4).trans rfl; have hcz54_5 : wc.cell? ⟨gb192, 5, none⟩ = some (.int .i64 a1_5) := (qb BK192.out 5).trans rfl; have hfz54_0 := qa BK192.out 0; have hfz54_1 := qa BK192.out 1; have hfz54_2 := qa BK192.out 2; have hfz54_3 := qa BK192.out 3; have hfz54_4 := qa BK192.out 4; have hfz54_5 := qa BK192.out 5) | ((with_reducible refine qw (f := 119) rfl ?_); refine qE (some 56) rfl rfl Try.func119 (by kernel_rfl) rfl #[.int .u32 a1_3] rfl (by (try simp only [List.map_toArray, List.map_cons, List.map_nil]); first | done | rfl | (simp only [List.length_drop, List.length_take]; rfl)) ?_; (with_reducible refine (number_plain.calls a1_3 t196 _ A47.out).mono ?_); rintro e w' ⟨rfl, ⟨nd, rfl⟩⟩; refine ⟨_, rfl, ?_⟩) | (go_at_call 120; (with_reducible refine (number_turns.calls t193 true _ A49.out).mono ?_); rintro e w' ⟨rfl, ⟨nd, rfl⟩⟩))
           go_ret
           exact ⟨by first | rfl | (simp [qm, qn] <;> rfl) | (simp [*, qm, qn] <;> rfl), by repeat (first | (with_reducible first | exact HB.out | apply qf | apply qc | apply qe | refine qg ?_ GE191.out | refine qg ?_ GE192.out) | exact HB.out)⟩
          ·rw [if_neg c51] at H
           have c51b0 : (a0_1 == a1_2) = false := beq_eq_false_iff_ne.mpr c51
           have c51b1 : (a0_1 != a1_2) = true := bne_iff_ne.mpr c51
           obtain rfl := Option.some.inj H
           have hnb55 := NB191_192.out
           have hnc55 := NB192_191.out
           have hcz56_0 : wc.cell? ⟨gb191, 0, none⟩ = some (.int .i64 a0_0) := (qb BK191.out 0).trans rfl
           have hcz56_1 : wc.cell? ⟨gb191, 1, none⟩ = some (.int .i64 a0_1) := (qb BK191.out 1).trans rfl
           have hcz56_2 : wc.cell? ⟨gb191, 2, none⟩ = some (.int .i64 a0_2) := (qb BK191.out 2).trans rfl
           have hcz56_3 : wc.cell? ⟨gb191, 3, none⟩ = some (.int .u32 a0_3) := (qb BK191.out 3).trans rfl
           have hcz56_4 : wc.cell? ⟨gb191, 4, none⟩ = some (.int .i64 a0_4) := (qb BK191.out 4).trans rfl
           have hcz56_5 : wc.cell? ⟨gb191, 5, none⟩ = some (.int .i64 a0_5) := (qb BK191.out 5).trans rfl
           have hfz56_0 := qa BK191.out 0
           have hfz56_1 := qa BK191.out 1
           have hfz56_2 := qa BK191.out 2
           have hfz56_3 := qa BK191.out 3
           have hfz56_4 := qa BK191.out 4
           have hfz56_5 := qa BK191.out 5
           go_wp2_with (first | ((with_reducible refine qw (f := 119) rfl ?_); refine qE (some 40) rfl rfl Try.func119 (by kernel_rfl) rfl #[.int .u32 a0_3] rfl (by (try simp only [List.map_toArray, List.map_cons, List.map_nil]); first | done | rfl | (simp only [List.length_drop, List.length_take]; rfl)) ?_; (with_reducible refine (number_plain.calls a0_3 t193 _ A24.out).mono ?_); rintro e w' ⟨rfl, ⟨nd, rfl⟩⟩; refine ⟨_, rfl, ?_⟩; have hcz57_0 : wc.cell? ⟨gb192, 0, none⟩ = some (.int .i64 a1_0) := (qb BK192.out 0).trans rfl; have hcz57_1 : wc.cell? ⟨gb192, 1, none⟩ = some (.int .i64 a1_1) := (qb BK192.out 1).trans rfl; have hcz57_2 : wc.cell? ⟨gb192, 2, none⟩ = some (.int .i64 a1_2) := (qb BK192.out 2).trans rfl; have hcz57_3 : wc.cell? ⟨gb192, 3, none⟩ = some (.int .u32 a1_3) := (qb BK192.out 3).trans rfl; have hcz57_4 : wc.cell? ⟨gb192, 4, none⟩ = some (.int .i64 a1_4) := (qb BK192.out 4).trans rfl; have hcz57_5 : wc.cell? ⟨gb192, 5, none⟩ = some (.int .i64 a1_5) := (qb BK192.out 5).trans rfl; have hfz57_0 := qa BK192.out 0; have hfz57_1 := qa BK192.out 1; have hfz57_2 := qa BK192.out 2; have hfz57_3 := qa BK192.out 3; have hfz57_4 := qa BK192.out 4; have hfz57_5 := qa BK192.out 5) | ((with_reducible refine qw (f := 119) rfl ?_); refine qE (some 56) rfl rfl Try.func119 (by kernel_rfl) rfl #[.int .u32 a1_3] rfl (by (try simp only [List.map_toArray, List.map_cons, List.map_nil]); first | done | rfl | (simp only [List.length_drop, List.length_take]; rfl)) ?_; (with_reducible refine (number_plain.calls a1_3 t196 _ A47.out).mono ?_); rintro e w' ⟨rfl, ⟨nd, rfl⟩⟩; refine ⟨_, rfl, ?_⟩) | (go_at_call 120; (with_reducible refine (number_turns.calls t193 true _ A49.out).mono ?_); rintro e w' ⟨rfl, ⟨nd, rfl⟩⟩))
           go_ret
           exact ⟨by first | rfl | (simp [qm, qn] <;> rfl) | (simp [*, qm, qn] <;> rfl), by repeat (first | (with_reducible first | exact HB.out | apply qf | apply qc | apply qe | refine qg ?_ GE191.out | refine qg ?_ GE192.out) | exact HB.out)⟩
         ·replace c50 := Bool.eq_false_iff.mpr c50
          subst c50
          have H1 : (some false) = some r := by rw [if_neg (show ¬ (false = true) by decide)] at H; exact H
          clear H
          have H := H1
          clear H1
          obtain rfl := Option.some.inj H
          have hnb58 := NB191_192.out
          have hnc58 := NB192_191.out
          have hcz59_0 : wc.cell? ⟨gb191, 0, none⟩ = some (.int .i64 a0_0) := (qb BK191.out 0).trans rfl
          have hcz59_1 : wc.cell? ⟨gb191, 1, none⟩ = some (.int .i64 a0_1) := (qb BK191.out 1).trans rfl
          have hcz59_2 : wc.cell? ⟨gb191, 2, none⟩ = some (.int .i64 a0_2) := (qb BK191.out 2).trans rfl
          have hcz59_3 : wc.cell? ⟨gb191, 3, none⟩ = some (.int .u32 a0_3) := (qb BK191.out 3).trans rfl
          have hcz59_4 : wc.cell? ⟨gb191, 4, none⟩ = some (.int .i64 a0_4) := (qb BK191.out 4).trans rfl
          have hcz59_5 : wc.cell? ⟨gb191, 5, none⟩ = some (.int .i64 a0_5) := (qb BK191.out 5).trans rfl
          have hfz59_0 := qa BK191.out 0
          have hfz59_1 := qa BK191.out 1
          have hfz59_2 := qa BK191.out 2
          have hfz59_3 := qa BK191.out 3
          have hfz59_4 := qa BK191.out 4
          have hfz59_5 := qa BK191.out 5
          go_wp2_with (first | ((with_reducible refine qw (f := 119) rfl ?_); refine qE (some 40) rfl rfl Try.func119 (by kernel_rfl) rfl #[.int .u32 a0_3] rfl (by (try simp only [List.map_toArray, List.map_cons, List.map_nil]); first | done | rfl | (simp only [List.length_drop, List.length_take]; rfl)) ?_; (with_reducible refine (number_plain.calls a0_3 t193 _ A24.out).mono ?_); rintro e w' ⟨rfl, ⟨nd, rfl⟩⟩; refine ⟨_, rfl, ?_⟩; have hcz60_0 : wc.cell? ⟨gb192, 0, none⟩ = some (.int .i64 a1_0) := (qb BK192.out 0).trans rfl; have hcz60_1 : wc.cell? ⟨gb192, 1, none⟩ = some (.int .i64 a1_1) := (qb BK192.out 1).trans rfl; have hcz60_2 : wc.cell? ⟨gb192, 2, none⟩ = some (.int .i64 a1_2) := (qb BK192.out 2).trans rfl; have hcz60_3 : wc.cell? ⟨gb192, 3, none⟩ = some (.int .u32 a1_3) := (qb BK192.out 3).trans rfl; have hcz60_4 : wc.cell? ⟨gb192, 4, none⟩ = some (.int .i64 a1_4) := (qb BK192.out 4).trans rfl; have hcz60_5 : wc.cell? ⟨gb192, 5, none⟩ = some (.int .i64 a1_5) := (qb BK192.out 5).trans rfl; have hfz60_0 := qa BK192.out 0; have hfz60_1 := qa BK192.out 1; have hfz60_2 := qa BK192.out 2; have hfz60_3 := qa BK192.out 3; have hfz60_4 := qa BK192.out 4; have hfz60_5 := qa BK192.out 5) | ((with_reducible refine qw (f := 119) rfl ?_); refine qE (some 56) rfl rfl Try.func119 (by kernel_rfl) rfl #[.int .u32 a1_3] rfl (by (try simp only [List.map_toArray, List.map_cons, List.map_nil]); first | done | rfl | (simp only [List.length_drop, List.length_take]; rfl)) ?_; (with_reducible refine (number_plain.calls a1_3 t196 _ A47.out).mono ?_); rintro e w' ⟨rfl, ⟨nd, rfl⟩⟩; refine ⟨_, rfl, ?_⟩) | (go_at_call 120; (with_reducible refine (number_turns.calls t193 false _ A49.out).mono ?_); rintro e w' ⟨rfl, ⟨nd, rfl⟩⟩))
          go_ret
          exact ⟨by first | rfl | (simp [qm, qn] <;> rfl) | (simp [*, qm, qn] <;> rfl), by repeat (first | (with_reducible first | exact HB.out | apply qf | apply qc | apply qe | refine qg ?_ GE191.out | refine qg ?_ GE192.out) | exact HB.out)⟩
        ·rw [if_neg c48] at H
         have c48b0 : (t193 == t196) = false := beq_eq_false_iff_ne.mpr c48
         have c48b1 : (t193 != t196) = true := bne_iff_ne.mpr c48
         obtain rfl := Option.some.inj H
         have hnb61 := NB191_192.out
         have hnc61 := NB192_191.out
         have hcz62_0 : wc.cell? ⟨gb191, 0, none⟩ = some (.int .i64 a0_0) := (qb BK191.out 0).trans rfl
         have hcz62_1 : wc.cell? ⟨gb191, 1, none⟩ = some (.int .i64 a0_1) := (qb BK191.out 1).trans rfl
         have hcz62_2 : wc.cell? ⟨gb191, 2, none⟩ = some (.int .i64 a0_2) := (qb BK191.out 2).trans rfl
         have hcz62_3 : wc.cell? ⟨gb191, 3, none⟩ = some (.int .u32 a0_3) := (qb BK191.out 3).trans rfl
         have hcz62_4 : wc.cell? ⟨gb191, 4, none⟩ = some (.int .i64 a0_4) := (qb BK191.out 4).trans rfl
         have hcz62_5 : wc.cell? ⟨gb191, 5, none⟩ = some (.int .i64 a0_5) := (qb BK191.out 5).trans rfl
         have hfz62_0 := qa BK191.out 0
         have hfz62_1 := qa BK191.out 1
         have hfz62_2 := qa BK191.out 2
         have hfz62_3 := qa BK191.out 3
         have hfz62_4 := qa BK191.out 4
         have hfz62_5 := qa BK191.out 5
         go_wp2_with (first | ((with_reducible refine qw (f := 119) rfl ?_); refine qE (some 40) rfl rfl Try.func119 (by kernel_rfl) rfl #[.int .u32 a0_3] rfl (by (try simp only [List.map_toArray, List.map_cons, List.map_nil]); first | done | rfl | (simp only [List.length_drop, List.length_take]; rfl)) ?_; (with_reducible refine (number_plain.calls a0_3 t193 _ A24.out).mono ?_); rintro e w' ⟨rfl, ⟨nd, rfl⟩⟩; refine ⟨_, rfl, ?_⟩; have hcz63_0 : wc.cell? ⟨gb192, 0, none⟩ = some (.int .i64 a1_0) := (qb BK192.out 0).trans rfl; have hcz63_1 : wc.cell? ⟨gb192, 1, none⟩ = some (.int .i64 a1_1) := (qb BK192.out 1).trans rfl; have hcz63_2 : wc.cell? ⟨gb192, 2, none⟩ = some (.int .i64 a1_2) := (qb BK192.out 2).trans rfl; have hcz63_3 : wc.cell? ⟨gb192, 3, none⟩ = some (.int .u32 a1_3) := (qb BK192.out 3).trans rfl; have hcz63_4 : wc.cell? ⟨gb192, 4, none⟩ = some (.int .i64 a1_4) := (qb BK192.out 4).trans rfl; have hcz63_5 : wc.cell? ⟨gb192, 5, none⟩ = some (.int .i64 a1_5) := (qb BK192.out 5).trans rfl; have hfz63_0 := qa BK192.out 0; have hfz63_1 := qa BK192.out 1; have hfz63_2 := qa BK192.out 2; have hfz63_3 := qa BK192.out 3; have hfz63_4 := qa BK192.out 4; have hfz63_5 := qa BK192.out 5) | ((with_reducible refine qw (f := 119) rfl ?_); refine qE (some 56) rfl rfl Try.func119 (by kernel_rfl) rfl #[.int .u32 a1_3] rfl (by (try simp only [List.map_toArray, List.map_cons, List.map_nil]); first | done | rfl | (simp only [List.length_drop, List.length_take]; rfl)) ?_; (with_reducible refine (number_plain.calls a1_3 t196 _ A47.out).mono ?_); rintro e w' ⟨rfl, ⟨nd, rfl⟩⟩; refine ⟨_, rfl, ?_⟩))
         go_ret
         exact ⟨by first | rfl | (simp [qm, qn] <;> rfl) | (simp [*, qm, qn] <;> rfl), by repeat (first | (with_reducible first | exact HB.out | apply qf | apply qc | apply qe | refine qg ?_ GE191.out | refine qg ?_ GE192.out) | exact HB.out)⟩
      ·rw [if_neg c23] at H
       have c23b0 : (a0_0 == 3) = false := beq_eq_false_iff_ne.mpr c23
       have c23b1 : (a0_0 != 3) = true := bne_iff_ne.mpr c23
       obtain rfl := Option.some.inj H
       go_wp2
       go_ret
       exact ⟨by first | rfl | (simp [qm, qn] <;> rfl) | (simp [*, qm, qn] <;> rfl), by repeat (first | (with_reducible first | exact HB.out | apply qf | apply qc | apply qe | refine qg ?_ GE191.out | refine qg ?_ GE192.out) | exact HB.out)⟩
 ·rw [if_neg c3] at H
  have c3b0 : (a0_0 == a1_0) = false := beq_eq_false_iff_ne.mpr c3
  have c3b1 : (a0_0 != a1_0) = true := bne_iff_ne.mpr c3
  obtain rfl := Option.some.inj H
  go_enter Try.func109, Try.ntmps109
  go_wp2_with (first | ((with_reducible refine qC (N := 2) rfl ?_); refine qA ?hg (N := 2) ?hd (cs := #[.int .i64 a0_0, .int .i64 a0_1, .int .i64 a0_2, .int .u32 a0_3, .int .i64 a0_4, .int .i64 a0_5]) (t := 66) ?hr ?_; (case hd => rfl); (case hg => rfl); (case hr => first | (go_simp; done) | (go_simp; rfl)); intro gb191 hg w64 hbox hb; have n0_ := Aside0.mk (qq (by repeat (first | (with_reducible first | exact HB.out | apply qf | apply qc | apply qe) | exact HB.out)) hb); have n1_ := Aside0.mk (hbox); have n2_ := Aside0.mk ((by rw [hg]; exact (qt (by repeat (first | (with_reducible first | exact HB.out | apply qf | apply qc | apply qe) | exact HB.out))) : w.heap.size ≤ gb191)); have n3_ := Aside0.mk ((by rw [hg]; exact (qt (by repeat (first | (with_reducible first | exact HB.out | apply qf | apply qc | apply qe) | exact HB.out))) : w.heap.size ≤ gb191)); clear HB; have HB := n0_; have BK191 := n1_; have GW191 := n2_; have GE191 := n3_; clear n0_ n1_ n2_ n3_; clear hb hbox hg) | ((with_reducible refine qC (N := 3) rfl ?_); refine qA ?hg (N := 3) ?hd (cs := #[.int .i64 a1_0, .int .i64 a1_1, .int .i64 a1_2, .int .u32 a1_3, .int .i64 a1_4, .int .i64 a1_5]) (t := 66) ?hr ?_; (case hd => rfl); (case hg => rfl); (case hr => first | (go_simp; done) | (go_simp; rfl)); intro gb192 hg w65 hbox hb; have n0_ := Aside0.mk (qo (g := gb191) (o := .cells #[.int .i64 a0_0, .int .i64 a0_1, .int .i64 a0_2, .int .u32 a0_3, .int .i64 a0_4, .int .i64 a0_5] 66 (0, 0)) (by (with_reducible repeat (first | refine qi ?_ _ | refine qk ?_ | refine qh ?_ _)); exact BK191.out) hb); have n1_ := Aside0.mk (qq (by repeat (first | (with_reducible first | exact HB.out | apply qf | apply qc | apply qe | refine qg ?_ GE191.out) | exact HB.out)) hb); have n2_ := Aside0.mk (hbox); have n3_ := Aside0.mk ((by rw [hg]; exact (qt (by repeat (first | (with_reducible first | exact HB.out | apply qf | apply qc | apply qe | refine qg ?_ GE191.out) | exact HB.out))) : w.heap.size ≤ gb192)); have n4_ := Aside0.mk ((by rw [hg]; exact (qt (by repeat (first | (with_reducible first | exact HB.out | apply qf | apply qc | apply qe | refine qg ?_ GE191.out) | exact HB.out))) : w.heap.size ≤ gb192)); have n5_ := Aside0.mk ((by rw [hg]; exact nne9 (qJ (g := gb191) (o := .cells #[.int .i64 a0_0, .int .i64 a0_1, .int .i64 a0_2, .int .u32 a0_3, .int .i64 a0_4, .int .i64 a0_5] 66 (0, 0)) (by (with_reducible repeat (first | refine qi ?_ _ | refine qk ?_ | refine qh ?_ _)); exact BK191.out)) : gb191 ≠ gb192)); have n6_ := Aside0.mk ((by rw [hg]; exact Nat.ne_of_gt (qJ (g := gb191) (o := .cells #[.int .i64 a0_0, .int .i64 a0_1, .int .i64 a0_2, .int .u32 a0_3, .int .i64 a0_4, .int .i64 a0_5] 66 (0, 0)) (by (with_reducible repeat (first | refine qi ?_ _ | refine qk ?_ | refine qh ?_ _)); exact BK191.out)) : gb192 ≠ gb191)); clear BK191; clear HB; have BK191 := n0_; have HB := n1_; have BK192 := n2_; have GW192 := n3_; have GE192 := n4_; have NB191_192 := n5_; have NB192_191 := n6_; clear n0_ n1_ n2_ n3_ n4_ n5_ n6_; clear hb hbox hg; have hnb66 := NB191_192.out; have hnc66 := NB192_191.out; have hcz67_0 : w65.cell? ⟨gb191, 0, none⟩ = some (.int .i64 a0_0) := (qb BK191.out 0).trans rfl; have hcz67_1 : w65.cell? ⟨gb191, 1, none⟩ = some (.int .i64 a0_1) := (qb BK191.out 1).trans rfl; have hcz67_2 : w65.cell? ⟨gb191, 2, none⟩ = some (.int .i64 a0_2) := (qb BK191.out 2).trans rfl; have hcz67_3 : w65.cell? ⟨gb191, 3, none⟩ = some (.int .u32 a0_3) := (qb BK191.out 3).trans rfl; have hcz67_4 : w65.cell? ⟨gb191, 4, none⟩ = some (.int .i64 a0_4) := (qb BK191.out 4).trans rfl; have hcz67_5 : w65.cell? ⟨gb191, 5, none⟩ = some (.int .i64 a0_5) := (qb BK191.out 5).trans rfl; have hfz67_0 := qa BK191.out 0; have hfz67_1 := qa BK191.out 1; have hfz67_2 := qa BK191.out 2; have hfz67_3 := qa BK191.out 3; have hfz67_4 := qa BK191.out 4; have hfz67_5 := qa BK191.out 5; have hcz68_0 : w65.cell? ⟨gb192, 0, none⟩ = some (.int .i64 a1_0) := (qb BK192.out 0).trans rfl; have hcz68_1 : w65.cell? ⟨gb192, 1, none⟩ = some (.int .i64 a1_1) := (qb BK192.out 1).trans rfl; have hcz68_2 : w65.cell? ⟨gb192, 2, none⟩ = some (.int .i64 a1_2) := (qb BK192.out 2).trans rfl; have hcz68_3 : w65.cell? ⟨gb192, 3, none⟩ = some (.int .u32 a1_3) := (qb BK192.out 3).trans rfl; have hcz68_4 : w65.cell? ⟨gb192, 4, none⟩ = some (.int .i64 a1_4) := (qb BK192.out 4).trans rfl; have hcz68_5 : w65.cell? ⟨gb192, 5, none⟩ = some (.int .i64 a1_5) := (qb BK192.out 5).trans rfl; have hfz68_0 := qa BK192.out 0; have hfz68_1 := qa BK192.out 1; have hfz68_2 := qa BK192.out 2; have hfz68_3 := qa BK192.out 3; have hfz68_4 := qa BK192.out 4; have hfz68_5 := qa BK192.out 5))
  go_ret
  exact ⟨by first | rfl | (simp [qm, qn] <;> rfl) | (simp [*, qm, qn] <;> rfl), by repeat (first | (with_reducible first | exact HB.out | apply qf | apply qc | apply qe | refine qg ?_ GE191.out | refine qg ?_ GE192.out) | exact HB.out)⟩

-- NOT PRINTED: function 92 (number_sharer_find)

-- NOT PRINTED: function 62 (number_sharer_op)

-- NOT PRINTED: function 28 (number_Do)

-- NOT PRINTED: function 27 (mimesislaw29_awake)

def mimesisref07_Plain.f (a0 : Int) : Option (Int) := (mimesisref07_Has.f a0).bind fun t208 => (if t208 = true then (if a0 ≤ 27 then ((some (([28, 31, 32, 33, 36, 37, 30, 34, 35] : List Int) : List Int)).bind fun y209 => (if 0 ≤ (wrap64 (a0 - 19)) then (if (wrap64 (a0 - 19)) < (y209.length : Int) then (some (rd y209 (wrap64 (a0 - 19)))) else (none)) else (none))) else (some a0)) else (some 0))
set_option maxHeartbeats 8000000 in
set_option maxRecDepth 100000 in
theorem mimesisref07_Plain.calls (a0 : Int) (r : Int) (w : World) (h : mimesisref07_Plain.f a0 = some r) :
  Calls Try.prog 94 #[.int .i64 a0] w fun e w' => e = .returned (.int .i64 r) ∧ Below w.heap.size w w' := by
 have HB := Aside0.mk (Below.refl w.heap.size w)
 have H : ((mimesisref07_Has.f a0).bind fun t208 => (if t208 = true then (if a0 ≤ 27 then ((some (([28, 31, 32, 33, 36, 37, 30, 34, 35] : List Int) : List Int)).bind fun y209 => (if 0 ≤ (wrap64 (a0 - 19)) then (if (wrap64 (a0 - 19)) < (y209.length : Int) then (some (rd y209 (wrap64 (a0 - 19)))) else (none)) else (none))) else (some a0)) else (some 0))) = some r := h
 clear h
 replace H := Option.bind_eq_some_iff.mp H
 obtain ⟨t208, A20, H⟩ := H
 replace H : (if t208 = true then (if a0 ≤ 27 then ((some (([28, 31, 32, 33, 36, 37, 30, 34, 35] : List Int) : List Int)).bind fun y209 => (if 0 ≤ (wrap64 (a0 - 19)) then (if (wrap64 (a0 - 19)) < (y209.length : Int) then (some (rd y209 (wrap64 (a0 - 19)))) else (none)) else (none))) else (some a0)) else (some 0)) = some r := H
 have A2 := Aside0.mk A20
 clear A20
 by_cases c3 : t208 = true
 ·subst c3
  have H1 : (if a0 ≤ 27 then ((some (([28, 31, 32, 33, 36, 37, 30, 34, 35] : List Int) : List Int)).bind fun y209 => (if 0 ≤ (wrap64 (a0 - 19)) then (if (wrap64 (a0 - 19)) < (y209.length : Int) then (some (rd y209 (wrap64 (a0 - 19)))) else (none)) else (none))) else (some a0)) = some r := by rw [if_pos rfl] at H; exact H
  clear H
  have H := H1
  clear H1
  by_cases c4 : a0 ≤ 27
  ·rw [if_pos c4] at H
   have c4b0 : decide (a0 ≤ 27) = true := decide_eq_true c4
   clear c4
   obtain ⟨y209, hy209⟩ : ∃ y_ : List Int, y_ = (([28, 31, 32, 33, 36, 37, 30, 34, 35] : List Int)) := ⟨_, rfl⟩
   replace H : (if 0 ≤ (wrap64 (a0 - 19)) then (if (wrap64 (a0 - 19)) < (y209.length : Int) then (some (rd y209 (wrap64 (a0 - 19)))) else (none)) else (none)) = some r := by first | (rw [hy209]; with_reducible exact H) | (have H2_ := (Option.bind_some _ _).symm.trans H; rw [hy209]; with_reducible exact H2_) | (have H2_ := (Option.bind_some _ _).symm.trans H; with_reducible exact H2_) | with_reducible exact H | (rw [hy209]; exact H) | exact H
   have Ny209 := Aside0.mk hy209
   clear hy209
   obtain ⟨ji5, hji5⟩ : ∃ j_ : Int, (wrap64 (a0 - 19)) = j_ := ⟨_, rfl⟩
   replace H : (if 0 ≤ (ji5) then (if (ji5) < (y209.length : Int) then (some (rd y209 (ji5))) else (none)) else (none)) = some r := by first | (rw [hji5] at H; exact H) | (simp only [hji5] at H ⊢; exact H)
   (try rw [hji5] at A2)
   have hji5w : (IntKind.i64.wrap (a0 - 19)) = ji5 := (i64_w _).trans hji5
   by_cases c6 : 0 ≤ (ji5)
   ·rw [if_pos c6] at H
    have c6b0 : decide (0 ≤ (ji5)) = true := decide_eq_true c6
    clear c6
    by_cases c7 : (ji5) < (y209.length : Int)
    ·rw [if_pos c7] at H
     have c7b0 : decide ((ji5) < (y209.length : Int)) = true := decide_eq_true c7
     clear c7
     obtain rfl := Option.some.inj H
     go_enter Try.func94, Try.ntmps94
     go_wp2_with (first | ((with_reducible refine qw (f := 93) rfl ?_); refine qE (some 4) rfl rfl Try.func93 (by kernel_rfl) rfl #[.int .i64 a0] rfl (by (try simp only [List.map_toArray, List.map_cons, List.map_nil]); first | done | rfl | (simp only [List.length_drop, List.length_take]; rfl)) ?_; (with_reducible refine (mimesisref07_Has.calls a0 true _ A2.out).mono ?_); rintro e w' ⟨rfl, ⟨nd, rfl⟩⟩; refine ⟨_, rfl, ?_⟩) | ((with_reducible refine qC (N := 8) rfl ?_); refine Kd.R_lit (Kd.int .i64) _ 3 ?hg (N := 8) ?hd (xs := ([28, 31, 32, 33, 36, 37, 30, 34, 35] : List Int)) (inner := [.int .i64 28, .int .i64 31, .int .i64 32, .int .i64 33, .int .i64 36, .int .i64 37, .int .i64 30, .int .i64 34, .int .i64 35]) (ok := fun _ => True) (okp := fun _ => True) ?hr ?hp (fun _ hk => hk) trivial (Below.refl _ _) (Nat.le_refl _) (by simp) ?_; (case hd => rfl); (case hg => rfl); (case hr => first | (go_simp; done) | (go_simp; rfl)); (case hp => exact (Reps.one (show Kd.M (Kd.int .i64) _ _ _ 28 [.int .i64 28] from rfl) (Reps.one (show Kd.M (Kd.int .i64) _ _ _ 31 [.int .i64 31] from rfl) (Reps.one (show Kd.M (Kd.int .i64) _ _ _ 32 [.int .i64 32] from rfl) (Reps.one (show Kd.M (Kd.int .i64) _ _ _ 33 [.int .i64 33] from rfl) (Reps.one (show Kd.M (Kd.int .i64) _ _ _ 36 [.int .i64 36] from rfl) (Reps.one (show Kd.M (Kd.int .i64) _ _ _ 37 [.int .i64 37] from rfl) (Reps.one (show Kd.M (Kd.int .i64) _ _ _ 30 [.int .i64 30] from rfl) (Reps.one (show Kd.M (Kd.int .i64) _ _ _ 34 [.int .i64 34] from rfl) (Reps.one (show Kd.M (Kd.int .i64) _ _ _ 35 [.int .i64 35] from rfl) (Reps.none _ _))))))))))); intro v210 w8 ho9 hb hg_ hnew_; clear hg_ hnew_; (first | rw [← Ny209.out] at ho9 | (simp only [Int.reduceToNat] at ho9; rw [← Ny209.out] at ho9)); have n0_ := Aside0.mk (Kd.R_lower ho9 (qt (by repeat (first | (with_reducible first | exact HB.out | apply qf | apply qc | apply qe) | exact HB.out)))); have n1_ := Aside0.mk (qq (by repeat (first | (with_reducible first | exact HB.out | apply qf | apply qc | apply qe) | exact HB.out)) hb); clear HB; have HO211 := n0_; have HB := n1_; clear n0_ n1_; clear hb ho9; obtain ⟨Ao10, co10, eo10⟩ := Kd.R_slice HO211.out; subst eo10; have p212 : 0 ≤ ((ji5) : Int) := of_decide_eq_true (by assumption); have q212 : (ji5) < (y209.length : Int) := of_decide_eq_true (by assumption); obtain ⟨ad212, e212, hx212_0⟩ := Kd.at_int (Kd.R_reads' HO211.out).2.2 (ji5) p212 q212; cases e212; replace p212 := eq_true p212; replace q212 := eq_true q212))
     go_ret
     exact ⟨by first | rfl | (simp [qm, qn] <;> rfl) | (simp only [← hji5]; first | rfl | (simp [qm, qn] <;> rfl)) | (simp [*, qm, qn] <;> rfl), by repeat (first | (with_reducible first | exact HB.out | apply qf | apply qc | apply qe) | exact HB.out)⟩
    ·rw [if_neg c7] at H
     exact absurd H (by simp)
   ·rw [if_neg c6] at H
    exact absurd H (by simp)
  ·rw [if_neg c4] at H
   have c4b0 : decide (a0 ≤ 27) = false := decide_eq_false c4
   clear c4
   obtain rfl := Option.some.inj H
   go_enter Try.func94, Try.ntmps94
   go_wp2_with (first | ((with_reducible refine qw (f := 93) rfl ?_); refine qE (some 4) rfl rfl Try.func93 (by kernel_rfl) rfl #[.int .i64 a0] rfl (by (try simp only [List.map_toArray, List.map_cons, List.map_nil]); first | done | rfl | (simp only [List.length_drop, List.length_take]; rfl)) ?_; (with_reducible refine (mimesisref07_Has.calls a0 true _ A2.out).mono ?_); rintro e w' ⟨rfl, ⟨nd, rfl⟩⟩; refine ⟨_, rfl, ?_⟩))
   go_ret
   exact ⟨by first | rfl | (simp [qm, qn] <;> rfl) | (simp [*, qm, qn] <;> rfl), by repeat (first | (with_reducible first | exact HB.out | apply qf | apply qc | apply qe) | exact HB.out)⟩
 ·replace c3 := Bool.eq_false_iff.mpr c3
  subst c3
  have H1 : (some 0) = some r := by rw [if_neg (show ¬ (false = true) by decide)] at H; exact H
  clear H
  have H := H1
  clear H1
  obtain rfl := Option.some.inj H
  go_enter Try.func94, Try.ntmps94
  go_wp2_with (first | ((with_reducible refine qw (f := 93) rfl ?_); refine qE (some 4) rfl rfl Try.func93 (by kernel_rfl) rfl #[.int .i64 a0] rfl (by (try simp only [List.map_toArray, List.map_cons, List.map_nil]); first | done | rfl | (simp only [List.length_drop, List.length_take]; rfl)) ?_; (with_reducible refine (mimesisref07_Has.calls a0 false _ A2.out).mono ?_); rintro e w' ⟨rfl, ⟨nd, rfl⟩⟩; refine ⟨_, rfl, ?_⟩))
  go_ret
  exact ⟨by first | rfl | (simp [qm, qn] <;> rfl) | (simp [*, qm, qn] <;> rfl), by repeat (first | (with_reducible first | exact HB.out | apply qf | apply qc | apply qe) | exact HB.out)⟩

def mimesisref28_Plain.f (a0 : Int) : Option (Int) := (mimesisref07_Has.f a0).bind fun t213 => (if t213 = true then ((mimesisref07_Plain.f a0).bind fun t214 => (some t214)) else (some a0))
set_option maxHeartbeats 8000000 in
set_option maxRecDepth 100000 in
theorem mimesisref28_Plain.calls (a0 : Int) (r : Int) (w : World) (h : mimesisref28_Plain.f a0 = some r) :
  Calls Try.prog 65 #[.int .i64 a0] w fun e w' => e = .returned (.int .i64 r) ∧ Below w.heap.size w w' := by
 have HB := Aside0.mk (Below.refl w.heap.size w)
 have H : ((mimesisref07_Has.f a0).bind fun t213 => (if t213 = true then ((mimesisref07_Plain.f a0).bind fun t214 => (some t214)) else (some a0))) = some r := h
 clear h
 replace H := Option.bind_eq_some_iff.mp H
 obtain ⟨t213, A20, H⟩ := H
 replace H : (if t213 = true then ((mimesisref07_Plain.f a0).bind fun t214 => (some t214)) else (some a0)) = some r := H
 have A2 := Aside0.mk A20
 clear A20
 by_cases c3 : t213 = true
 ·subst c3
  have H1 : ((mimesisref07_Plain.f a0).bind fun t214 => (some t214)) = some r := by rw [if_pos rfl] at H; exact H
  clear H
  have H := H1
  clear H1
  replace H := Option.bind_eq_some_iff.mp H
  obtain ⟨t214, A40, H⟩ := H
  replace H : (some t214) = some r := H
  have A4 := Aside0.mk A40
  clear A40
  obtain rfl := Option.some.inj H
  go_enter Try.func65, Try.ntmps65
  go_wp2_with (first | ((with_reducible refine qw (f := 93) rfl ?_); refine qE (some 4) rfl rfl Try.func93 (by kernel_rfl) rfl #[.int .i64 a0] rfl (by (try simp only [List.map_toArray, List.map_cons, List.map_nil]); first | done | rfl | (simp only [List.length_drop, List.length_take]; rfl)) ?_; (with_reducible refine (mimesisref07_Has.calls a0 true _ A2.out).mono ?_); rintro e w' ⟨rfl, ⟨nd, rfl⟩⟩; refine ⟨_, rfl, ?_⟩) | ((with_reducible refine qw (f := 94) rfl ?_); refine qE (some 6) rfl rfl Try.func94 (by kernel_rfl) rfl #[.int .i64 a0] rfl (by (try simp only [List.map_toArray, List.map_cons, List.map_nil]); first | done | rfl | (simp only [List.length_drop, List.length_take]; rfl)) ?_; (with_reducible refine (mimesisref07_Plain.calls a0 t214 _ A4.out).mono ?_); rintro e w5 ⟨rfl, hb⟩; refine ⟨_, rfl, ?_⟩; have n0_ := Aside0.mk (qq (by repeat (first | (with_reducible first | exact HB.out | apply qf | apply qc | apply qe) | exact HB.out)) hb); clear HB; have HB := n0_; clear n0_; (try clear hb); (try clear hb2); (try clear hk); (try clear hi)))
  go_ret
  exact ⟨by first | rfl | (simp [qm, qn] <;> rfl) | (simp [*, qm, qn] <;> rfl), by repeat (first | (with_reducible first | exact HB.out | apply qf | apply qc | apply qe) | exact HB.out)⟩
 ·replace c3 := Bool.eq_false_iff.mpr c3
  subst c3
  have H1 : (some a0) = some r := by rw [if_neg (show ¬ (false = true) by decide)] at H; exact H
  clear H
  have H := H1
  clear H1
  obtain rfl := Option.some.inj H
  go_enter Try.func65, Try.ntmps65
  go_wp2_with (first | ((with_reducible refine qw (f := 93) rfl ?_); refine qE (some 4) rfl rfl Try.func93 (by kernel_rfl) rfl #[.int .i64 a0] rfl (by (try simp only [List.map_toArray, List.map_cons, List.map_nil]); first | done | rfl | (simp only [List.length_drop, List.length_take]; rfl)) ?_; (with_reducible refine (mimesisref07_Has.calls a0 false _ A2.out).mono ?_); rintro e w' ⟨rfl, ⟨nd, rfl⟩⟩; refine ⟨_, rfl, ?_⟩))
  go_ret
  exact ⟨by first | rfl | (simp [qm, qn] <;> rfl) | (simp [*, qm, qn] <;> rfl), by repeat (first | (with_reducible first | exact HB.out | apply qf | apply qc | apply qe) | exact HB.out)⟩

def mimesisref29_turns.f (a0 : Int) : Option (Bool) := if a0 = 28 then (some true) else (if a0 = 36 then (some true) else (if a0 = 33 then (some true) else (if a0 = 37 then (some true) else (if a0 = 50 then (some true) else (if a0 = 51 then (some true) else (some (a0 == 53)))))))
set_option maxHeartbeats 8000000 in
set_option maxRecDepth 100000 in
theorem mimesisref29_turns.calls (a0 : Int) (r : Bool) (w : World) (h : mimesisref29_turns.f a0 = some r) :
  Calls Try.prog 66 #[.int .i64 a0] w fun e w' => e = .returned (.bool r) ∧ Drawn0 w w' := by
 have H : (if a0 = 28 then (some true) else (if a0 = 36 then (some true) else (if a0 = 33 then (some true) else (if a0 = 37 then (some true) else (if a0 = 50 then (some true) else (if a0 = 51 then (some true) else (some (a0 == 53)))))))) = some r := h
 clear h
 by_cases c2 : a0 = 28
 ·rw [if_pos c2] at H
  have c2b0 : (a0 == 28) = true := beq_iff_eq.mpr c2
  have c2b1 : (a0 != 28) = false := bne_eq_false_iff_eq.mpr c2
  clear c2
  obtain rfl := Option.some.inj H
  go_enter Try.func66, Try.ntmps66
  go_wp2
  go_ret
  exact ⟨by first | rfl | (simp; done) | (simp [*]; done), by repeat (first | exact Drawn0.refl _ | apply Drawn0.step)⟩
 ·rw [if_neg c2] at H
  have c2b0 : (a0 == 28) = false := beq_eq_false_iff_ne.mpr c2
  have c2b1 : (a0 != 28) = true := bne_iff_ne.mpr c2
  by_cases c3 : a0 = 36
  ·rw [if_pos c3] at H
   have c3b0 : (a0 == 36) = true := beq_iff_eq.mpr c3
   have c3b1 : (a0 != 36) = false := bne_eq_false_iff_eq.mpr c3
   clear c3
   obtain rfl := Option.some.inj H
   go_enter Try.func66, Try.ntmps66
   go_wp2
   go_ret
   exact ⟨by first | rfl | (simp; done) | (simp [*]; done), by repeat (first | exact Drawn0.refl _ | apply Drawn0.step)⟩
  ·rw [if_neg c3] at H
   have c3b0 : (a0 == 36) = false := beq_eq_false_iff_ne.mpr c3
   have c3b1 : (a0 != 36) = true := bne_iff_ne.mpr c3
   by_cases c4 : a0 = 33
   ·rw [if_pos c4] at H
    have c4b0 : (a0 == 33) = true := beq_iff_eq.mpr c4
    have c4b1 : (a0 != 33) = false := bne_eq_false_iff_eq.mpr c4
    clear c4
    obtain rfl := Option.some.inj H
    go_enter Try.func66, Try.ntmps66
    go_wp2
    go_ret
    exact ⟨by first | rfl | (simp; done) | (simp [*]; done), by repeat (first | exact Drawn0.refl _ | apply Drawn0.step)⟩
   ·rw [if_neg c4] at H
    have c4b0 : (a0 == 33) = false := beq_eq_false_iff_ne.mpr c4
    have c4b1 : (a0 != 33) = true := bne_iff_ne.mpr c4
    by_cases c5 : a0 = 37
    ·rw [if_pos c5] at H
     have c5b0 : (a0 == 37) = true := beq_iff_eq.mpr c5
     have c5b1 : (a0 != 37) = false := bne_eq_false_iff_eq.mpr c5
     clear c5
     obtain rfl := Option.some.inj H
     go_enter Try.func66, Try.ntmps66
     go_wp2
     go_ret
     exact ⟨by first | rfl | (simp; done) | (simp [*]; done), by repeat (first | exact Drawn0.refl _ | apply Drawn0.step)⟩
    ·rw [if_neg c5] at H
     have c5b0 : (a0 == 37) = false := beq_eq_false_iff_ne.mpr c5
     have c5b1 : (a0 != 37) = true := bne_iff_ne.mpr c5
     by_cases c6 : a0 = 50
     ·rw [if_pos c6] at H
      have c6b0 : (a0 == 50) = true := beq_iff_eq.mpr c6
      have c6b1 : (a0 != 50) = false := bne_eq_false_iff_eq.mpr c6
      clear c6
      obtain rfl := Option.some.inj H
      go_enter Try.func66, Try.ntmps66
      go_wp2
      go_ret
      exact ⟨by first | rfl | (simp; done) | (simp [*]; done), by repeat (first | exact Drawn0.refl _ | apply Drawn0.step)⟩
     ·rw [if_neg c6] at H
      have c6b0 : (a0 == 50) = false := beq_eq_false_iff_ne.mpr c6
      have c6b1 : (a0 != 50) = true := bne_iff_ne.mpr c6
      by_cases c7 : a0 = 51
      ·rw [if_pos c7] at H
       have c7b0 : (a0 == 51) = true := beq_iff_eq.mpr c7
       have c7b1 : (a0 != 51) = false := bne_eq_false_iff_eq.mpr c7
       clear c7
       obtain rfl := Option.some.inj H
       go_enter Try.func66, Try.ntmps66
       go_wp2
       go_ret
       exact ⟨by first | rfl | (simp; done) | (simp [*]; done), by repeat (first | exact Drawn0.refl _ | apply Drawn0.step)⟩
      ·rw [if_neg c7] at H
       have c7b0 : (a0 == 51) = false := beq_eq_false_iff_ne.mpr c7
       have c7b1 : (a0 != 51) = true := bne_iff_ne.mpr c7
       obtain rfl := Option.some.inj H
       go_enter Try.func66, Try.ntmps66
       go_wp2
       go_ret
       exact ⟨by first | rfl | (simp; done) | (simp [*]; done), by repeat (first | exact Drawn0.refl _ | apply Drawn0.step)⟩

end Go.Proofs.Ytlnbghhhifnbdaa.PNumberDoes
