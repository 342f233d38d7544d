/- Proved: contracts of single functions, and words for them, as the kit's print has printed them; names shortened. Conditions: those that each theorem names. -/
import Derived.Test.YtlnbghhhifnbdaaZPNumberDoesx0
import Derived.Test.YtlnbghhhifnbdaaZPNumberDoesx2
namespace Go.Proofs.Ytlnbghhhifnbdaa.PNumberDoes
open Go.RowKit Go.Proofs.YtlnbghhhifnbdaaW.PrintWords Go.Proofs.YtlnbghhhifnbdaaW.PrintLast Go.Proofs.YtlnbghhhifnbdaaW.PrintMore
attribute [local go_sem] max2_int min2_int max_two min_two qQ qR max_four min_four
set_option linter.unusedVariables false
set_option linter.unusedSimpArgs false

attribute [local go_sem high] eqA84
-- NOT PRINTED: function 23 (mimesisref23_Same)

mutual
def mimesislaw29_light.j0 : Nat → Bool → List Int → List (S59) → List (S64) → Int → Option (Bool)
 | 0, _, _, _, _, _ => none
 | k + 1, x19, x173000, x173001, x173002, x173003 => if x19 = true then (some false) else (mimesislaw29_light.l0 k 0 x173000 x173001 x173002 x173003)
def mimesislaw29_light.l0 : Nat → Int → List Int → List (S59) → List (S64) → Int → Option (Bool)
 | 0, _, _, _, _, _ => none
 | k + 1, x3, x173000, x173001, x173002, x173003 => if x3 < (x173002.length : Int) then (if 0 ≤ x3 then (if (((qj x173002 x3).f4).length : Int) > 100 then (some false) else (mimesislaw29_light.l0 k (wrap64 (x3 + 1)) x173000 x173001 x173002 x173003)) else (none)) else (some true)
end
def mimesislaw29_light.f (k : Nat) (l0_0 : List Int) (l0_1 : List (S59)) (l0_2 : List (S64)) (a0_3 : Int) : Option (Bool) := if (l0_0.length : Int) > 100 then (mimesislaw29_light.j0 k true l0_0 l0_1 l0_2 a0_3) else (if (l0_1.length : Int) > 600 then (mimesislaw29_light.j0 k true l0_0 l0_1 l0_2 a0_3) else (mimesislaw29_light.j0 k (decide ((l0_2.length : Int) > 200)) l0_0 l0_1 l0_2 a0_3))
set_option maxHeartbeats 8000000 in
set_option maxRecDepth 100000 in
theorem mimesislaw29_light.calls (k : Nat) (A0_0 : Option Addr) (c0_0 : Nat) (l0_0 : List Int) (A0_1 : Option Addr) (c0_1 : Nat) (l0_1 : List (S59)) (A0_2 : Option Addr) (c0_2 : Nat) (l0_2 : List (S64)) (a0_3 : Int) (r : Bool) (w : World) (hr0_0 : Kd.C (Kd.int .u32) w A0_0 l0_0.length l0_0) (hc0_0 : l0_0.length ≤ c0_0) (hr0_1 : Kd.C k59 w A0_1 l0_1.length l0_1) (hc0_1 : l0_1.length ≤ c0_1) (hr0_2 : Kd.C k64 w A0_2 l0_2.length l0_2) (hc0_2 : l0_2.length ≤ c0_2) (h : mimesislaw29_light.f k l0_0 l0_1 l0_2 a0_3 = some r) :
  Calls Try.prog 26 #[.agg #[.slice A0_0 l0_0.length c0_0, .slice A0_1 l0_1.length c0_1, .slice A0_2 l0_2.length c0_2, .int .i64 a0_3]] w fun e w' => e = .returned (.bool r) ∧ Below w.heap.size w w' := by
 have hu26 := Try.underlying26
 have HR0_0 := Aside0.mk hr0_0
 have HC0_0 := Aside0.mk hc0_0
 clear hr0_0 hc0_0
 have HR0_1 := Aside0.mk hr0_1
 have HC0_1 := Aside0.mk hc0_1
 clear hr0_1 hc0_1
 have HR0_2 := Aside0.mk hr0_2
 have HC0_2 := Aside0.mk hc0_2
 clear hr0_2 hc0_2
 have HB := Aside0.mk (Below.refl w.heap.size w)
 have H : (if (l0_0.length : Int) > 100 then (mimesislaw29_light.j0 k true l0_0 l0_1 l0_2 a0_3) else (if (l0_1.length : Int) > 600 then (mimesislaw29_light.j0 k true l0_0 l0_1 l0_2 a0_3) else (mimesislaw29_light.j0 k (decide ((l0_2.length : Int) > 200)) l0_0 l0_1 l0_2 a0_3))) = some r := h
 clear h
 have HC2 := Aside0.mk H
 clear H
 go_enter Try.func26, Try.ntmps26
 go_upto_region 1 with (first | ((with_reducible refine qC (N := 1) rfl ?_); (try (refine qM (by rfl) ?_; dsimp only)); refine qA ?hg (N := 1) ?hd (cs := #[.slice A0_0 l0_0.length c0_0, .slice A0_1 l0_1.length c0_1, .slice A0_2 l0_2.length c0_2, .int .i64 a0_3]) (t := 26) ?hr ?_; (case hd => rfl); (case hg => rfl); (case hr => first | (go_simp; done) | (go_simp; rfl)); intro gb172 hg w3 hbox hb; have n0_ := Aside0.mk (qq (by repeat (first | (with_reducible first | exact HB.out | apply qf | apply qc | apply qe) | exact HB.out)) hb); have n1_ := Aside0.mk (hbox); have n2_ := Aside0.mk ((by rw [hg]; exact (qt (by repeat (first | (with_reducible first | exact HB.out | apply qf | apply qc | apply qe) | exact HB.out))) : w.heap.size ≤ gb172)); have n3_ := Aside0.mk ((by rw [hg]; exact (qt (by repeat (first | (with_reducible first | exact HB.out | apply qf | apply qc | apply qe) | exact HB.out))) : w.heap.size ≤ gb172)); clear HB; have HB := n0_; have BK172 := n1_; have GW172 := n2_; have GE172 := n3_; clear n0_ n1_ n2_ n3_; clear hb hbox hg))
 (try simp only [Act.put, List.setIfInBounds_toArray, List.set_cons_zero, List.set_cons_succ])
 go_cut [19] (fun v19 wc => ∃ (kq : Nat) (x19_1 : Bool), v19 = .bool x19_1 ∧ Aside0 (mimesislaw29_light.j0 kq x19_1 l0_0 l0_1 l0_2 a0_3 = some r) ∧ Aside0 (kq ≤ k) ∧ Aside0 (wc.heap[gb172]? = some (.cells #[(.slice A0_0 l0_0.length c0_0), (.slice A0_1 l0_1.length c0_1), (.slice A0_2 l0_2.length c0_2), .int .i64 a0_3] 26 (0, 0))) ∧ Aside0 (Below w.heap.size w wc))
 case first =>
  have H := HC2.out
  clear HC2
  by_cases c4 : (l0_0.length : Int) > 100
  ·rw [if_pos c4] at H
   have c4b0 : decide (100 < (l0_0.length : Int)) = true := decide_eq_true c4
   have c4b1 : decide (100 < l0_0.length) = true := decide_eq_true (by omega)
   clear c4
   (first | rw [c4b0] | (simp only [i64_w, i32_w]; rw [c4b0]) | skip)
   have H' := Aside0.mk H
   clear H
   have hcz5_0 : w3.cell? ⟨gb172, 0, none⟩ = some (.slice A0_0 l0_0.length c0_0) := (qb BK172.out 0).trans rfl
   have hcz5_1 : w3.cell? ⟨gb172, 1, none⟩ = some (.slice A0_1 l0_1.length c0_1) := (qb BK172.out 1).trans rfl
   have hcz5_2 : w3.cell? ⟨gb172, 2, none⟩ = some (.slice A0_2 l0_2.length c0_2) := (qb BK172.out 2).trans rfl
   have hcz5_3 : w3.cell? ⟨gb172, 3, none⟩ = some (.int .i64 a0_3) := (qb BK172.out 3).trans rfl
   have hfz5_0 := qa BK172.out 0
   have hfz5_1 := qa BK172.out 1
   have hfz5_2 := qa BK172.out 2
   have hfz5_3 := qa BK172.out 3
   go_wp2
   go_meet
   case rel => exact ⟨_, (true), (by first | rfl | (simp; done) | (simp [*]; done)), H', ⟨by first | omega | exact Nat.le_refl _⟩, ⟨by (with_reducible repeat (first | refine qi ?_ _ | refine qk ?_ | refine qh ?_ _)); exact BK172.out⟩, ⟨by repeat (first | (with_reducible first | exact HB.out | apply qf | apply qc | apply qe | refine qg ?_ GE172.out) | exact HB.out)⟩⟩
  ·rw [if_neg c4] at H
   have c4b0 : decide (100 < (l0_0.length : Int)) = false := decide_eq_false c4
   have c4b1 : decide (100 < l0_0.length) = false := decide_eq_false (by omega)
   clear c4
   (first | rw [c4b0] | (simp only [i64_w, i32_w]; rw [c4b0]) | skip)
   by_cases c6 : (l0_1.length : Int) > 600
   ·rw [if_pos c6] at H
    have c6b0 : decide (600 < (l0_1.length : Int)) = true := decide_eq_true c6
    have c6b1 : decide (600 < l0_1.length) = true := decide_eq_true (by omega)
    clear c6
    have H' := Aside0.mk H
    clear H
    have hcz7_0 : w3.cell? ⟨gb172, 0, none⟩ = some (.slice A0_0 l0_0.length c0_0) := (qb BK172.out 0).trans rfl
    have hcz7_1 : w3.cell? ⟨gb172, 1, none⟩ = some (.slice A0_1 l0_1.length c0_1) := (qb BK172.out 1).trans rfl
    have hcz7_2 : w3.cell? ⟨gb172, 2, none⟩ = some (.slice A0_2 l0_2.length c0_2) := (qb BK172.out 2).trans rfl
    have hcz7_3 : w3.cell? ⟨gb172, 3, none⟩ = some (.int .i64 a0_3) := (qb BK172.out 3).trans rfl
    have hfz7_0 := qa BK172.out 0
    have hfz7_1 := qa BK172.out 1
    have hfz7_2 := qa BK172.out 2
    have hfz7_3 := qa BK172.out 3
    go_wp2
    go_meet
    case rel => exact ⟨_, (true), (by first | rfl | (simp; done) | (simp [*]; done)), H', ⟨by first | omega | exact Nat.le_refl _⟩, ⟨by (with_reducible repeat (first | refine qi ?_ _ | refine qk ?_ | refine qh ?_ _)); exact BK172.out⟩, ⟨by repeat (first | (with_reducible first | exact HB.out | apply qf | apply qc | apply qe | refine qg ?_ GE172.out) | exact HB.out)⟩⟩
   ·rw [if_neg c6] at H
    have c6b0 : decide (600 < (l0_1.length : Int)) = false := decide_eq_false c6
    have c6b1 : decide (600 < l0_1.length) = false := decide_eq_false (by omega)
    clear c6
    have H' := Aside0.mk H
    clear H
    have hcz8_0 : w3.cell? ⟨gb172, 0, none⟩ = some (.slice A0_0 l0_0.length c0_0) := (qb BK172.out 0).trans rfl
    have hcz8_1 : w3.cell? ⟨gb172, 1, none⟩ = some (.slice A0_1 l0_1.length c0_1) := (qb BK172.out 1).trans rfl
    have hcz8_2 : w3.cell? ⟨gb172, 2, none⟩ = some (.slice A0_2 l0_2.length c0_2) := (qb BK172.out 2).trans rfl
    have hcz8_3 : w3.cell? ⟨gb172, 3, none⟩ = some (.int .i64 a0_3) := (qb BK172.out 3).trans rfl
    have hfz8_0 := qa BK172.out 0
    have hfz8_1 := qa BK172.out 1
    have hfz8_2 := qa BK172.out 2
    have hfz8_3 := qa BK172.out 3
    go_wp2
    go_meet
    case rel => exact ⟨_, (decide ((l0_2.length : Int) > 200)), (by first | rfl | (simp; done) | (simp [*]; done)), H', ⟨by first | omega | exact Nat.le_refl _⟩, ⟨by (with_reducible repeat (first | refine qi ?_ _ | refine qk ?_ | refine qh ?_ _)); exact BK172.out⟩, ⟨by repeat (first | (with_reducible first | exact HB.out | apply qf | apply qc | apply qe | refine qg ?_ GE172.out) | exact HB.out)⟩⟩
 case rest =>
  clear HC2
  try clear c2
  try clear p2
  try clear c4
  try clear c4b0
  try clear c4b1
  try clear c6
  try clear c6b0
  try clear c6b1
  try clear hcz5_0
  try clear hcz5_1
  try clear hcz5_2
  try clear hcz5_3
  try clear hcz7_0
  try clear hcz7_1
  try clear hcz7_2
  try clear hcz7_3
  try clear hcz8_0
  try clear hcz8_1
  try clear hcz8_2
  try clear hcz8_3
  try clear hfz5_0
  try clear hfz5_1
  try clear hfz5_2
  try clear hfz5_3
  try clear hfz7_0
  try clear hfz7_1
  try clear hfz7_2
  try clear hfz7_3
  try clear hfz8_0
  try clear hfz8_1
  try clear hfz8_2
  try clear hfz8_3
  obtain ⟨kq, x19_1, rfl, HA, HJ1, BK172, HB⟩ := hcut
  cases kq with
  | zero => exact absurd HA.out (by simp [mimesislaw29_light.j0])
  | succ kj1 =>
   have H := HA.out
   clear HA
   simp only [mimesislaw29_light.j0] at H
   by_cases c9 : x19_1 = true
   ·subst c9
    have H1 : (some false) = some r := by rw [if_pos rfl] at H; exact H
    clear H
    have H := H1
    clear H1
    obtain rfl := Option.some.inj H
    go_wp2
    go_ret
    exact ⟨by first | rfl | (simp [qm, qn] <;> rfl) | (simp [*, qm, qn] <;> rfl), by repeat (first | (with_reducible first | exact HB.out | apply qf | apply qc | apply qe | refine qg ?_ GE172.out) | exact HB.out)⟩
   ·replace c9 := Bool.eq_false_iff.mpr c9
    subst c9
    have H1 : (mimesislaw29_light.l0 kj1 0 l0_0 l0_1 l0_2 a0_3) = some r := by rw [if_neg (show ¬ (false = true) by decide)] at H; exact H
    clear H
    have H := H1
    clear H1
    have H' := Aside0.mk H
    clear H
    go_wp2
    go_loopg [3] kj1 (fun kq v3 w' => ∃ (x3_2 : Int), v3 = .int .i64 x3_2 ∧ Aside0 (mimesislaw29_light.l0 kq x3_2 l0_0 l0_1 l0_2 a0_3 = some r) ∧ Aside0 (kq ≤ kj1) ∧ Aside0 (w'.heap[gb172]? = some (.cells #[(.slice A0_0 l0_0.length c0_0), (.slice A0_1 l0_1.length c0_1), (.slice A0_2 l0_2.length c0_2), .int .i64 a0_3] 26 (0, 0))) ∧ Aside0 (Below w.heap.size w w'))
    case atStart => exact ⟨(0), (by first | rfl | (simp; done) | (simp [*]; done)), H', ⟨Nat.le_refl _⟩, ⟨by (with_reducible repeat (first | refine qi ?_ _ | refine qk ?_ | refine qh ?_ _)); exact BK172.out⟩, ⟨by repeat (first | (with_reducible first | exact HB.out | apply qf | apply qc | apply qe | refine qg ?_ GE172.out) | exact HB.out)⟩⟩
    case round =>
     clear H'
     try clear c2
     try clear p2
     try clear c4
     try clear c4b0
     try clear c4b1
     try clear c6
     try clear c6b0
     try clear c6b1
     try clear c9
     try clear hcz5_0
     try clear hcz5_1
     try clear hcz5_2
     try clear hcz5_3
     try clear hcz7_0
     try clear hcz7_1
     try clear hcz7_2
     try clear hcz7_3
     try clear hcz8_0
     try clear hcz8_1
     try clear hcz8_2
     try clear hcz8_3
     try clear hfz5_0
     try clear hfz5_1
     try clear hfz5_2
     try clear hfz5_3
     try clear hfz7_0
     try clear hfz7_1
     try clear hfz7_2
     try clear hfz7_3
     try clear hfz8_0
     try clear hfz8_1
     try clear hfz8_2
     try clear hfz8_3
     try clear p2
     obtain ⟨x3_2, rfl, HA, HK2, BK172, HB⟩ := hrel
     cases gk with
     | zero => exact absurd HA.out (by simp [mimesislaw29_light.l0])
     | succ k2 =>
      have H := HA.out
      clear HA
      simp only [mimesislaw29_light.l0] at H
      by_cases c10 : x3_2 < (l0_2.length : Int)
      ·rw [if_pos c10] at H
       have c10b0 : decide (x3_2 < (l0_2.length : Int)) = true := decide_eq_true c10
       clear c10
       by_cases c11 : 0 ≤ x3_2
       ·rw [if_pos c11] at H
        have c11b0 : decide (0 ≤ x3_2) = true := decide_eq_true c11
        clear c11
        by_cases c12 : (((qj l0_2 x3_2).f4).length : Int) > 100
        ·rw [if_pos c12] at H
         have c12b0 : decide (100 < (((qj l0_2 x3_2).f4).length : Int)) = true := decide_eq_true c12
         have c12b1 : decide (100 < ((qj l0_2 x3_2).f4).length) = true := decide_eq_true (by omega)
         clear c12
         obtain rfl := Option.some.inj H
         have hcz13_0 : wr.cell? ⟨gb172, 0, none⟩ = some (.slice A0_0 l0_0.length c0_0) := (qb BK172.out 0).trans rfl
         have hcz13_1 : wr.cell? ⟨gb172, 1, none⟩ = some (.slice A0_1 l0_1.length c0_1) := (qb BK172.out 1).trans rfl
         have hcz13_2 : wr.cell? ⟨gb172, 2, none⟩ = some (.slice A0_2 l0_2.length c0_2) := (qb BK172.out 2).trans rfl
         have hcz13_3 : wr.cell? ⟨gb172, 3, none⟩ = some (.int .i64 a0_3) := (qb BK172.out 3).trans rfl
         have hfz13_0 := qa BK172.out 0
         have hfz13_1 := qa BK172.out 1
         have hfz13_2 := qa BK172.out 2
         have hfz13_3 := qa BK172.out 3
         have p173 : 0 ≤ (x3_2 : Int) := of_decide_eq_true (by assumption)
         have q173 : x3_2 < (l0_2.length : Int) := of_decide_eq_true (by assumption)
         obtain ⟨ad173, A173_4, c173_4, e173, hx173_0, hx173_1, hx173_2, hx173_3, hx173_4, hl173_4, hi173_4⟩ := at_T64 HR0_2.out x3_2 p173 q173
         cases e173
         replace hx173_0 := (HB.out.cell (blc9 w _ hx173_0)).trans hx173_0
         replace hx173_1 := (HB.out.cell (blc9 w _ hx173_1)).trans hx173_1
         replace hx173_2 := (HB.out.cell (blc9 w _ hx173_2)).trans hx173_2
         replace hx173_3 := (HB.out.cell (blc9 w _ hx173_3)).trans hx173_3
         replace hx173_4 := (HB.out.cell (blc9 w _ hx173_4)).trans hx173_4
         have HR173_4 := Aside0.mk hi173_4
         have HC173_4 := Aside0.mk hl173_4
         clear hi173_4 hl173_4
         replace p173 := eq_true p173
         replace q173 := eq_true q173
         go_wp2
         go_ret
         exact ⟨by first | rfl | (simp [qm, qn] <;> rfl) | (simp [*, qm, qn] <;> rfl), by repeat (first | (with_reducible first | exact HB.out | apply qf | apply qc | apply qe | refine qg ?_ GE172.out) | exact HB.out)⟩
        ·rw [if_neg c12] at H
         have c12b0 : decide (100 < (((qj l0_2 x3_2).f4).length : Int)) = false := decide_eq_false c12
         have c12b1 : decide (100 < ((qj l0_2 x3_2).f4).length) = false := decide_eq_false (by omega)
         clear c12
         have H' := Aside0.mk H
         clear H
         have hcz14_0 : wr.cell? ⟨gb172, 0, none⟩ = some (.slice A0_0 l0_0.length c0_0) := (qb BK172.out 0).trans rfl
         have hcz14_1 : wr.cell? ⟨gb172, 1, none⟩ = some (.slice A0_1 l0_1.length c0_1) := (qb BK172.out 1).trans rfl
         have hcz14_2 : wr.cell? ⟨gb172, 2, none⟩ = some (.slice A0_2 l0_2.length c0_2) := (qb BK172.out 2).trans rfl
         have hcz14_3 : wr.cell? ⟨gb172, 3, none⟩ = some (.int .i64 a0_3) := (qb BK172.out 3).trans rfl
         have hfz14_0 := qa BK172.out 0
         have hfz14_1 := qa BK172.out 1
         have hfz14_2 := qa BK172.out 2
         have hfz14_3 := qa BK172.out 3
         have p173 : 0 ≤ (x3_2 : Int) := of_decide_eq_true (by assumption)
         have q173 : x3_2 < (l0_2.length : Int) := of_decide_eq_true (by assumption)
         obtain ⟨ad173, A173_4, c173_4, e173, hx173_0, hx173_1, hx173_2, hx173_3, hx173_4, hl173_4, hi173_4⟩ := at_T64 HR0_2.out x3_2 p173 q173
         cases e173
         replace hx173_0 := (HB.out.cell (blc9 w _ hx173_0)).trans hx173_0
         replace hx173_1 := (HB.out.cell (blc9 w _ hx173_1)).trans hx173_1
         replace hx173_2 := (HB.out.cell (blc9 w _ hx173_2)).trans hx173_2
         replace hx173_3 := (HB.out.cell (blc9 w _ hx173_3)).trans hx173_3
         replace hx173_4 := (HB.out.cell (blc9 w _ hx173_4)).trans hx173_4
         have HR173_4 := Aside0.mk hi173_4
         have HC173_4 := Aside0.mk hl173_4
         clear hi173_4 hl173_4
         replace p173 := eq_true p173
         replace q173 := eq_true q173
         go_wp2
         go_roundg k2
         case measure => have := HJ1.out; have := HK2.out; omega
         case rel => exact ⟨(wrap64 (x3_2 + 1)), (by first | rfl | (simp; done) | (simp [*]; done)), H', ⟨by have := HJ1.out; have := HK2.out; omega⟩, ⟨by (with_reducible repeat (first | refine qi ?_ _ | refine qk ?_ | refine qh ?_ _)); exact BK172.out⟩, ⟨by repeat (first | (with_reducible first | exact HB.out | apply qf | apply qc | apply qe | refine qg ?_ GE172.out) | exact HB.out)⟩⟩
       ·rw [if_neg c11] at H
        exact absurd H (by simp)
      ·rw [if_neg c10] at H
       have c10b0 : decide (x3_2 < (l0_2.length : Int)) = false := decide_eq_false c10
       clear c10
       obtain rfl := Option.some.inj H
       have hcz15_0 : wr.cell? ⟨gb172, 0, none⟩ = some (.slice A0_0 l0_0.length c0_0) := (qb BK172.out 0).trans rfl
       have hcz15_1 : wr.cell? ⟨gb172, 1, none⟩ = some (.slice A0_1 l0_1.length c0_1) := (qb BK172.out 1).trans rfl
       have hcz15_2 : wr.cell? ⟨gb172, 2, none⟩ = some (.slice A0_2 l0_2.length c0_2) := (qb BK172.out 2).trans rfl
       have hcz15_3 : wr.cell? ⟨gb172, 3, none⟩ = some (.int .i64 a0_3) := (qb BK172.out 3).trans rfl
       have hfz15_0 := qa BK172.out 0
       have hfz15_1 := qa BK172.out 1
       have hfz15_2 := qa BK172.out 2
       have hfz15_3 := qa BK172.out 3
       go_wp2
       go_ret
       exact ⟨by first | rfl | (simp [qm, qn] <;> rfl) | (simp [*, qm, qn] <;> rfl), by repeat (first | (with_reducible first | exact HB.out | apply qf | apply qc | apply qe | refine qg ?_ GE172.out) | exact HB.out)⟩

def ir_Uses.j0 : Nat → Int → Bool → Int → Int → Int → Int → Int → Int → Option (List Int)
 | 0, _, _, _, _, _, _, _, _ => none
 | k + 1, x4, x5, x175000, x175001, x175002, x175003, x175004, x175005 => if x5 = true then (some (([x175001, x175002] : List Int))) else (if x4 = 4 then (some (([x175001] : List Int))) else (some ([] : List Int)))
def ir_Uses.f (k : Nat) (a0_0 : Int) (a0_1 : Int) (a0_2 : Int) (a0_3 : Int) (a0_4 : Int) (a0_5 : Int) : Option (List Int) := if a0_0 = 3 then (ir_Uses.j0 k a0_0 (a0_0 == 3) a0_0 a0_1 a0_2 a0_3 a0_4 a0_5) else (if a0_0 = 5 then (ir_Uses.j0 k a0_0 (a0_0 == 5) a0_0 a0_1 a0_2 a0_3 a0_4 a0_5) else (ir_Uses.j0 k a0_0 (a0_0 == 6) a0_0 a0_1 a0_2 a0_3 a0_4 a0_5))
set_option maxHeartbeats 8000000 in
set_option maxRecDepth 100000 in
theorem ir_Uses.calls (k : Nat) (a0_0 : Int) (a0_1 : Int) (a0_2 : Int) (a0_3 : Int) (a0_4 : Int) (a0_5 : Int) (r : List Int) (w : World) (h : ir_Uses.f k a0_0 a0_1 a0_2 a0_3 a0_4 a0_5 = some r) :
  Calls Try.prog 77 #[.agg #[.int .i64 a0_0, .int .i64 a0_1, .int .i64 a0_2, .int .u32 a0_3, .int .i64 a0_4, .int .i64 a0_5]] w fun e w' => ∃ v0_ : Value, e = .returned (v0_) ∧ Kd.R (Kd.int .i64) 3 w' w.heap.size (fun _ => True) v0_ r ∧ Below w.heap.size w w' := by
 have hu66 := Try.underlying66
 have HB := Aside0.mk (Below.refl w.heap.size w)
 have H : (if a0_0 = 3 then (ir_Uses.j0 k a0_0 (a0_0 == 3) a0_0 a0_1 a0_2 a0_3 a0_4 a0_5) else (if a0_0 = 5 then (ir_Uses.j0 k a0_0 (a0_0 == 5) a0_0 a0_1 a0_2 a0_3 a0_4 a0_5) else (ir_Uses.j0 k a0_0 (a0_0 == 6) a0_0 a0_1 a0_2 a0_3 a0_4 a0_5))) = some r := h
 clear h
 have HC2 := Aside0.mk H
 clear H
 go_enter Try.func77, Try.ntmps77
 go_upto_if 5 with (first | ((with_reducible refine qC (N := 1) rfl ?_); refine qA ?hg (N := 1) ?hd (cs := #[.int .i64 a0_0, .int .i64 a0_1, .int .i64 a0_2, .int .u32 a0_3, .int .i64 a0_4, .int .i64 a0_5]) (t := 66) ?hr ?_; (case hd => rfl); (case hg => rfl); (case hr => first | (go_simp; done) | (go_simp; rfl)); intro gb174 hg w3 hbox hb; have n0_ := Aside0.mk (qq (by repeat (first | (with_reducible first | exact HB.out | apply qf | apply qc | apply qe) | exact HB.out)) hb); have n1_ := Aside0.mk (hbox); have n2_ := Aside0.mk ((by rw [hg]; exact (qt (by repeat (first | (with_reducible first | exact HB.out | apply qf | apply qc | apply qe) | exact HB.out))) : w.heap.size ≤ gb174)); have n3_ := Aside0.mk ((by rw [hg]; exact (qt (by repeat (first | (with_reducible first | exact HB.out | apply qf | apply qc | apply qe) | exact HB.out))) : w.heap.size ≤ gb174)); clear HB; have HB := n0_; have BK174 := n1_; have GW174 := n2_; have GE174 := n3_; clear n0_ n1_ n2_ n3_; clear hb hbox hg; have hcz4_0 : w3.cell? ⟨gb174, 0, none⟩ = some (.int .i64 a0_0) := (qb BK174.out 0).trans rfl; have hcz4_1 : w3.cell? ⟨gb174, 1, none⟩ = some (.int .i64 a0_1) := (qb BK174.out 1).trans rfl; have hcz4_2 : w3.cell? ⟨gb174, 2, none⟩ = some (.int .i64 a0_2) := (qb BK174.out 2).trans rfl; have hcz4_3 : w3.cell? ⟨gb174, 3, none⟩ = some (.int .u32 a0_3) := (qb BK174.out 3).trans rfl; have hcz4_4 : w3.cell? ⟨gb174, 4, none⟩ = some (.int .i64 a0_4) := (qb BK174.out 4).trans rfl; have hcz4_5 : w3.cell? ⟨gb174, 5, none⟩ = some (.int .i64 a0_5) := (qb BK174.out 5).trans rfl; have hfz4_0 := qa BK174.out 0; have hfz4_1 := qa BK174.out 1; have hfz4_2 := qa BK174.out 2; have hfz4_3 := qa BK174.out 3; have hfz4_4 := qa BK174.out 4; have hfz4_5 := qa BK174.out 5))
 (try simp only [Act.put, List.setIfInBounds_toArray, List.set_cons_zero, List.set_cons_succ])
 go_cut [5] (fun v5 wc => ∃ (kq : Nat) (x5_1 : Bool), v5 = .bool x5_1 ∧ Aside0 (ir_Uses.j0 kq a0_0 x5_1 a0_0 a0_1 a0_2 a0_3 a0_4 a0_5 = some r) ∧ Aside0 (kq ≤ k) ∧ Aside0 (wc.heap[gb174]? = some (.cells #[.int .i64 a0_0, .int .i64 a0_1, .int .i64 a0_2, .int .u32 a0_3, .int .i64 a0_4, .int .i64 a0_5] 66 (0, 0))) ∧ Aside0 (Below w.heap.size w wc))
 case first =>
  have H := HC2.out
  clear HC2
  by_cases c5 : a0_0 = 3
  ·rw [if_pos c5] at H
   have c5b0 : (a0_0 == 3) = true := beq_iff_eq.mpr c5
   have c5b1 : (a0_0 != 3) = false := bne_eq_false_iff_eq.mpr c5
   clear c5
   (first | rw [c5b0] | (simp only [i64_w, i32_w]; rw [c5b0]) | skip)
   have H' := Aside0.mk H
   clear H
   go_wp2
   go_meet
   case rel => exact ⟨_, ((a0_0 == 3)), (by first | rfl | (simp; done) | (simp [*]; done)), H', ⟨by first | omega | exact Nat.le_refl _⟩, ⟨by (with_reducible repeat (first | refine qi ?_ _ | refine qk ?_ | refine qh ?_ _)); exact BK174.out⟩, ⟨by repeat (first | (with_reducible first | exact HB.out | apply qf | apply qc | apply qe | refine qg ?_ GE174.out) | exact HB.out)⟩⟩
  ·rw [if_neg c5] at H
   have c5b0 : (a0_0 == 3) = false := beq_eq_false_iff_ne.mpr c5
   have c5b1 : (a0_0 != 3) = true := bne_iff_ne.mpr c5
   (first | rw [c5b0] | (simp only [i64_w, i32_w]; rw [c5b0]) | skip)
   by_cases c6 : a0_0 = 5
   ·rw [if_pos c6] at H
    have c6b0 : (a0_0 == 5) = true := beq_iff_eq.mpr c6
    have c6b1 : (a0_0 != 5) = false := bne_eq_false_iff_eq.mpr c6
    clear c6
    have H' := Aside0.mk H
    clear H
    go_wp2
    go_meet
    case rel => exact ⟨_, ((a0_0 == 5)), (by first | rfl | (simp; done) | (simp [*]; done)), H', ⟨by first | omega | exact Nat.le_refl _⟩, ⟨by (with_reducible repeat (first | refine qi ?_ _ | refine qk ?_ | refine qh ?_ _)); exact BK174.out⟩, ⟨by repeat (first | (with_reducible first | exact HB.out | apply qf | apply qc | apply qe | refine qg ?_ GE174.out) | exact HB.out)⟩⟩
   ·rw [if_neg c6] at H
    have c6b0 : (a0_0 == 5) = false := beq_eq_false_iff_ne.mpr c6
    have c6b1 : (a0_0 != 5) = true := bne_iff_ne.mpr c6
    have H' := Aside0.mk H
    clear H
    go_wp2
    go_meet
    case rel => exact ⟨_, ((a0_0 == 6)), (by first | rfl | (simp; done) | (simp [*]; done)), H', ⟨by first | omega | exact Nat.le_refl _⟩, ⟨by (with_reducible repeat (first | refine qi ?_ _ | refine qk ?_ | refine qh ?_ _)); exact BK174.out⟩, ⟨by repeat (first | (with_reducible first | exact HB.out | apply qf | apply qc | apply qe | refine qg ?_ GE174.out) | exact HB.out)⟩⟩
 case rest =>
  clear HC2
  try clear p2
  try clear c5
  try clear c5b0
  try clear c5b1
  try clear c6
  try clear c6b0
  try clear c6b1
  try clear hcz4_0
  try clear hcz4_1
  try clear hcz4_2
  try clear hcz4_3
  try clear hcz4_4
  try clear hcz4_5
  try clear hfz4_0
  try clear hfz4_1
  try clear hfz4_2
  try clear hfz4_3
  try clear hfz4_4
  try clear hfz4_5
  obtain ⟨kq, x5_1, rfl, HA, HJ1, BK174, HB⟩ := hcut
  cases kq with
  | zero => exact absurd HA.out (by simp [ir_Uses.j0])
  | succ kj1 =>
   have H := HA.out
   clear HA
   simp only [ir_Uses.j0] at H
   by_cases c7 : x5_1 = true
   ·subst c7
    have H1 : (some (([a0_1, a0_2] : List Int))) = some r := by rw [if_pos rfl] at H; exact H
    clear H
    have H := H1
    clear H1
    obtain ⟨y175, hy175⟩ : ∃ y_ : List Int, y_ = (([a0_1, a0_2] : List Int)) := ⟨_, rfl⟩
    replace H : (some y175) = some r := by first | (rw [hy175]; with_reducible exact H) | (have H2_ := (Option.bind_some _ _).symm.trans H; rw [hy175]; with_reducible exact H2_) | (have H2_ := (Option.bind_some _ _).symm.trans H; with_reducible exact H2_) | with_reducible exact H | (rw [hy175]; exact H) | exact H
    have Ny175 := Aside0.mk hy175
    clear hy175
    obtain rfl := Option.some.inj H
    have hcz8_0 : wc.cell? ⟨gb174, 0, none⟩ = some (.int .i64 a0_0) := (qb BK174.out 0).trans rfl
    have hcz8_1 : wc.cell? ⟨gb174, 1, none⟩ = some (.int .i64 a0_1) := (qb BK174.out 1).trans rfl
    have hcz8_2 : wc.cell? ⟨gb174, 2, none⟩ = some (.int .i64 a0_2) := (qb BK174.out 2).trans rfl
    have hcz8_3 : wc.cell? ⟨gb174, 3, none⟩ = some (.int .u32 a0_3) := (qb BK174.out 3).trans rfl
    have hcz8_4 : wc.cell? ⟨gb174, 4, none⟩ = some (.int .i64 a0_4) := (qb BK174.out 4).trans rfl
    have hcz8_5 : wc.cell? ⟨gb174, 5, none⟩ = some (.int .i64 a0_5) := (qb BK174.out 5).trans rfl
    have hfz8_0 := qa BK174.out 0
    have hfz8_1 := qa BK174.out 1
    have hfz8_2 := qa BK174.out 2
    have hfz8_3 := qa BK174.out 3
    have hfz8_4 := qa BK174.out 4
    have hfz8_5 := qa BK174.out 5
    go_wp2_with (first | ((with_reducible refine qC (N := 13) rfl ?_); refine Kd.R_lit (Kd.int .i64) _ 3 ?hg (N := 13) ?hd (xs := ([a0_1, a0_2] : List Int)) (inner := [.int .i64 a0_1, .int .i64 a0_2]) (ok := fun _ => True) (okp := fun _ => True) ?hr ?hp (fun _ hk => hk) trivial (Below.refl _ _) (Nat.le_refl _) (by simp) ?_; (case hd => rfl); (case hg => rfl); (case hr => first | (go_simp; done) | (go_simp; rfl)); (case hp => exact (Reps.one (show Kd.M (Kd.int .i64) _ _ _ a0_1 [.int .i64 a0_1] from rfl) (Reps.one (show Kd.M (Kd.int .i64) _ _ _ a0_2 [.int .i64 a0_2] from rfl) (Reps.none _ _)))); intro v176 w9 ho10 hb hg_ hnew_; clear hg_ hnew_; (first | rw [← Ny175.out] at ho10 | (simp only [Int.reduceToNat] at ho10; rw [← Ny175.out] at ho10)); have n0_ := Aside0.mk (Kd.R_lower ho10 (qt (by repeat (first | (with_reducible first | exact HB.out | apply qf | apply qc | apply qe | refine qg ?_ GE174.out) | exact HB.out)))); have n1_ := Aside0.mk (qo (g := gb174) (o := .cells #[.int .i64 a0_0, .int .i64 a0_1, .int .i64 a0_2, .int .u32 a0_3, .int .i64 a0_4, .int .i64 a0_5] 66 (0, 0)) (by (with_reducible repeat (first | refine qi ?_ _ | refine qk ?_ | refine qh ?_ _)); exact BK174.out) hb); have n2_ := Aside0.mk (qq (by repeat (first | (with_reducible first | exact HB.out | apply qf | apply qc | apply qe | refine qg ?_ GE174.out) | exact HB.out)) hb); clear BK174; clear HB; have HO177 := n0_; have BK174 := n1_; have HB := n2_; clear n0_ n1_ n2_; clear hb ho10))
    go_ret
    exact ⟨_, by first | rfl | (simp [qm, qn] <;> rfl) | (simp [*, qm, qn] <;> rfl), by (with_reducible repeat (first | apply Kd.R_alloc | apply Kd.R_drewN | apply Kd.R_drew)); exact HO177.out, by repeat (first | (with_reducible first | exact HB.out | apply qf | apply qc | apply qe | refine qg ?_ GE174.out) | exact HB.out)⟩
   ·replace c7 := Bool.eq_false_iff.mpr c7
    subst c7
    have H1 : (if a0_0 = 4 then (some (([a0_1] : List Int))) else (some ([] : List Int))) = some r := by rw [if_neg (show ¬ (false = true) by decide)] at H; exact H
    clear H
    have H := H1
    clear H1
    by_cases c11 : a0_0 = 4
    ·rw [if_pos c11] at H
     have c11b0 : (a0_0 == 4) = true := beq_iff_eq.mpr c11
     have c11b1 : (a0_0 != 4) = false := bne_eq_false_iff_eq.mpr c11
     clear c11
     obtain ⟨y178, hy178⟩ : ∃ y_ : List Int, y_ = (([a0_1] : List Int)) := ⟨_, rfl⟩
     replace H : (some y178) = some r := by first | (rw [hy178]; with_reducible exact H) | (have H2_ := (Option.bind_some _ _).symm.trans H; rw [hy178]; with_reducible exact H2_) | (have H2_ := (Option.bind_some _ _).symm.trans H; with_reducible exact H2_) | with_reducible exact H | (rw [hy178]; exact H) | exact H
     have Ny178 := Aside0.mk hy178
     clear hy178
     obtain rfl := Option.some.inj H
     have hcz12_0 : wc.cell? ⟨gb174, 0, none⟩ = some (.int .i64 a0_0) := (qb BK174.out 0).trans rfl
     have hcz12_1 : wc.cell? ⟨gb174, 1, none⟩ = some (.int .i64 a0_1) := (qb BK174.out 1).trans rfl
     have hcz12_2 : wc.cell? ⟨gb174, 2, none⟩ = some (.int .i64 a0_2) := (qb BK174.out 2).trans rfl
     have hcz12_3 : wc.cell? ⟨gb174, 3, none⟩ = some (.int .u32 a0_3) := (qb BK174.out 3).trans rfl
     have hcz12_4 : wc.cell? ⟨gb174, 4, none⟩ = some (.int .i64 a0_4) := (qb BK174.out 4).trans rfl
     have hcz12_5 : wc.cell? ⟨gb174, 5, none⟩ = some (.int .i64 a0_5) := (qb BK174.out 5).trans rfl
     have hfz12_0 := qa BK174.out 0
     have hfz12_1 := qa BK174.out 1
     have hfz12_2 := qa BK174.out 2
     have hfz12_3 := qa BK174.out 3
     have hfz12_4 := qa BK174.out 4
     have hfz12_5 := qa BK174.out 5
     go_wp2_with (first | ((with_reducible refine qC (N := 18) rfl ?_); refine Kd.R_lit (Kd.int .i64) _ 3 ?hg (N := 18) ?hd (xs := ([a0_1] : List Int)) (inner := [.int .i64 a0_1]) (ok := fun _ => True) (okp := fun _ => True) ?hr ?hp (fun _ hk => hk) trivial (Below.refl _ _) (Nat.le_refl _) (by simp) ?_; (case hd => rfl); (case hg => rfl); (case hr => first | (go_simp; done) | (go_simp; rfl)); (case hp => exact (Reps.one (show Kd.M (Kd.int .i64) _ _ _ a0_1 [.int .i64 a0_1] from rfl) (Reps.none _ _))); intro v179 w13 ho14 hb hg_ hnew_; clear hg_ hnew_; (first | rw [← Ny178.out] at ho14 | (simp only [Int.reduceToNat] at ho14; rw [← Ny178.out] at ho14)); have n0_ := Aside0.mk (Kd.R_lower ho14 (qt (by repeat (first | (with_reducible first | exact HB.out | apply qf | apply qc | apply qe | refine qg ?_ GE174.out) | exact HB.out)))); have n1_ := Aside0.mk (qo (g := gb174) (o := .cells #[.int .i64 a0_0, .int .i64 a0_1, .int .i64 a0_2, .int .u32 a0_3, .int .i64 a0_4, .int .i64 a0_5] 66 (0, 0)) (by (with_reducible repeat (first | refine qi ?_ _ | refine qk ?_ | refine qh ?_ _)); exact BK174.out) hb); have n2_ := Aside0.mk (qq (by repeat (first | (with_reducible first | exact HB.out | apply qf | apply qc | apply qe | refine qg ?_ GE174.out) | exact HB.out)) hb); clear BK174; clear HB; have HO180 := n0_; have BK174 := n1_; have HB := n2_; clear n0_ n1_ n2_; clear hb ho14))
     go_ret
     exact ⟨_, by first | rfl | (simp [qm, qn] <;> rfl) | (simp [*, qm, qn] <;> rfl), by (with_reducible repeat (first | apply Kd.R_alloc | apply Kd.R_drewN | apply Kd.R_drew)); exact HO180.out, by repeat (first | (with_reducible first | exact HB.out | apply qf | apply qc | apply qe | refine qg ?_ GE174.out) | exact HB.out)⟩
    ·rw [if_neg c11] at H
     have c11b0 : (a0_0 == 4) = false := beq_eq_false_iff_ne.mpr c11
     have c11b1 : (a0_0 != 4) = true := bne_iff_ne.mpr c11
     obtain rfl := Option.some.inj H
     go_wp2
     go_ret
     exact ⟨_, by first | rfl | (simp [qm, qn] <;> rfl) | (simp [*, qm, qn] <;> rfl), by first | exact Kd.R_nil _ _ _ _ _ | exact Kd.N_nil _ _ _ _ _ | exact Kd.V_nil _ _ _ _ _ | exact Kd.Q_nil _ _ _ _ _ | exact Kd.S_nil _ _ _ _ _, by repeat (first | (with_reducible first | exact HB.out | apply qf | apply qc | apply qe | refine qg ?_ GE174.out) | exact HB.out)⟩

-- NOT PRINTED: function 114 (ir_judge_value)

-- NOT PRINTED: function 125 (ir_Val_125)

-- NOT PRINTED: function 116 (ir_Val_116)

-- NOT PRINTED: function 103 (ir_judge_exit)

def alu_Has.f (a0 : Int) : Option (Bool) := if a0 ≥ 19 then (some (decide (a0 ≤ 37))) else (some false)
set_option maxHeartbeats 8000000 in
set_option maxRecDepth 100000 in
theorem alu_Has.calls (a0 : Int) (r : Bool) (w : World) (h : alu_Has.f a0 = some r) :
  Calls Try.prog 127 #[.int .i64 a0] w fun e w' => e = .returned (.bool r) ∧ Drawn0 w w' := by
 have H : (if a0 ≥ 19 then (some (decide (a0 ≤ 37))) else (some false)) = some r := h
 clear h
 by_cases c2 : a0 ≥ 19
 ·rw [if_pos c2] at H
  have c2b0 : decide (19 ≤ a0) = true := decide_eq_true c2
  clear c2
  obtain rfl := Option.some.inj H
  go_enter Try.func127, Try.ntmps127
  go_wp2
  go_ret
  exact ⟨by first | rfl | (simp; done) | (simp [*]; done), by repeat (first | exact Drawn0.refl _ | apply Drawn0.step)⟩
 ·rw [if_neg c2] at H
  have c2b0 : decide (19 ≤ a0) = false := decide_eq_false c2
  clear c2
  obtain rfl := Option.some.inj H
  go_enter Try.func127, Try.ntmps127
  go_wp2
  go_ret
  exact ⟨by first | rfl | (simp; done) | (simp [*]; done), by repeat (first | exact Drawn0.refl _ | apply Drawn0.step)⟩

def muldiv_Has.f (a0 : Int) : Option (Bool) := if a0 ≥ 50 then (some (decide (a0 ≤ 57))) else (some false)
set_option maxHeartbeats 8000000 in
set_option maxRecDepth 100000 in
theorem muldiv_Has.calls (a0 : Int) (r : Bool) (w : World) (h : muldiv_Has.f a0 = some r) :
  Calls Try.prog 128 #[.int .i64 a0] w fun e w' => e = .returned (.bool r) ∧ Drawn0 w w' := by
 have H : (if a0 ≥ 50 then (some (decide (a0 ≤ 57))) else (some false)) = some r := h
 clear h
 by_cases c2 : a0 ≥ 50
 ·rw [if_pos c2] at H
  have c2b0 : decide (50 ≤ a0) = true := decide_eq_true c2
  clear c2
  obtain rfl := Option.some.inj H
  go_enter Try.func128, Try.ntmps128
  go_wp2
  go_ret
  exact ⟨by first | rfl | (simp; done) | (simp [*]; done), by repeat (first | exact Drawn0.refl _ | apply Drawn0.step)⟩
 ·rw [if_neg c2] at H
  have c2b0 : decide (50 ≤ a0) = false := decide_eq_false c2
  clear c2
  obtain rfl := Option.some.inj H
  go_enter Try.func128, Try.ntmps128
  go_wp2
  go_ret
  exact ⟨by first | rfl | (simp; done) | (simp [*]; done), by repeat (first | exact Drawn0.refl _ | apply Drawn0.step)⟩

def ir_Reckons.f (a0 : Int) : Option (Bool) := (alu_Has.f a0).bind fun t181 => (if t181 = true then (some true) else ((muldiv_Has.f a0).bind fun t182 => (some t182)))
set_option maxHeartbeats 8000000 in
set_option maxRecDepth 100000 in
theorem ir_Reckons.calls (a0 : Int) (r : Bool) (w : World) (h : ir_Reckons.f a0 = some r) :
  Calls Try.prog 121 #[.int .i64 a0] w fun e w' => e = .returned (.bool r) ∧ Drawn0 w w' := by
 have H : ((alu_Has.f a0).bind fun t181 => (if t181 = true then (some true) else ((muldiv_Has.f a0).bind fun t182 => (some t182)))) = some r := h
 clear h
 replace H := Option.bind_eq_some_iff.mp H
 obtain ⟨t181, A20, H⟩ := H
 replace H : (if t181 = true then (some true) else ((muldiv_Has.f a0).bind fun t182 => (some t182))) = some r := H
 have A2 := Aside0.mk A20
 clear A20
 by_cases c3 : t181 = true
 ·subst c3
  have H1 : (some true) = some r := by rw [if_pos rfl] at H; exact H
  clear H
  have H := H1
  clear H1
  obtain rfl := Option.some.inj H
  go_enter Try.func121, Try.ntmps121
  go_wp2_with (first | ((with_reducible refine qw (f := 127) rfl ?_); refine qE (some 4) rfl rfl Try.func127 (by kernel_rfl) rfl #[.int .i64 a0] rfl (by (try simp only [List.map_toArray, List.map_cons, List.map_nil]); first | done | rfl | (simp only [List.length_drop, List.length_take]; rfl)) ?_; (with_reducible refine (alu_Has.calls a0 true _ A2.out).mono ?_); rintro e w' ⟨rfl, ⟨nd, rfl⟩⟩; refine ⟨_, rfl, ?_⟩))
  go_ret
  exact ⟨by first | rfl | (simp; done) | (simp [*]; done), by repeat (first | exact Drawn0.refl _ | apply Drawn0.step)⟩
 ·replace c3 := Bool.eq_false_iff.mpr c3
  subst c3
  have H1 : ((muldiv_Has.f a0).bind fun t182 => (some t182)) = some r := by rw [if_neg (show ¬ (false = true) by decide)] at H; exact H
  clear H
  have H := H1
  clear H1
  replace H := Option.bind_eq_some_iff.mp H
  obtain ⟨t182, A40, H⟩ := H
  replace H : (some t182) = some r := H
  have A4 := Aside0.mk A40
  clear A40
  obtain rfl := Option.some.inj H
  go_enter Try.func121, Try.ntmps121
  go_wp2_with (first | ((with_reducible refine qw (f := 127) rfl ?_); refine qE (some 4) rfl rfl Try.func127 (by kernel_rfl) rfl #[.int .i64 a0] rfl (by (try simp only [List.map_toArray, List.map_cons, List.map_nil]); first | done | rfl | (simp only [List.length_drop, List.length_take]; rfl)) ?_; (with_reducible refine (alu_Has.calls a0 false _ A2.out).mono ?_); rintro e w' ⟨rfl, ⟨nd, rfl⟩⟩; refine ⟨_, rfl, ?_⟩) | (go_at_call 128; (with_reducible refine (muldiv_Has.calls a0 t182 _ A4.out).mono ?_); rintro e w' ⟨rfl, ⟨nd, rfl⟩⟩))
  go_ret
  exact ⟨by first | rfl | (simp; done) | (simp [*]; done), by repeat (first | exact Drawn0.refl _ | apply Drawn0.step)⟩

end Go.Proofs.Ytlnbghhhifnbdaa.PNumberDoes
