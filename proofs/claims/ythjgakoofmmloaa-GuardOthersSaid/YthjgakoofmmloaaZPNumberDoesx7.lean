/- Proved: contracts of single functions, and words for them, as the kit's print has printed them; names shortened. Conditions: those that each theorem names. -/
import Derived.Test.YthjgakoofmmloaaZPNumberDoesx0
import Derived.Test.YthjgakoofmmloaaZPNumberDoesx3
import Derived.Test.YthjgakoofmmloaaZPNumberDoesx5
import Derived.Test.YthjgakoofmmloaaZPNumberDoesx6
namespace Go.Proofs.Ythjgakoofmmloaa.PNumberDoes
open Go.RowKit Go.Proofs.YthjgakoofmmloaaW.PrintWords Go.Proofs.YthjgakoofmmloaaW.PrintLast Go.Proofs.YthjgakoofmmloaaW.PrintMore
attribute [local go_sem] max2_int min2_int max_two min_two qQ qR max_four min_four
set_option linter.unusedVariables false
set_option linter.unusedSimpArgs false

mutual
def mimesisref23_Check.j0 : Nat → Bool → List Int → List (S62) → List (S65) → Int → Option (Int)
 | 0, _, _, _, _, _ => none
 | k + 1, x21, x138000, x138001, x138002, x138003 => if x21 = true then (some 3) else (mimesisref23_Check.l0 k 0 x138000 x138001 x138002 x138003)
def mimesisref23_Check.l0 : Nat → Int → List Int → List (S62) → List (S65) → Int → Option (Int)
 | 0, _, _, _, _, _ => none
 | k + 1, x3, x138000, x138001, x138002, x138003 => if x3 < (x138001.length : Int) then ((mimesisref23_op.f k x138000 x138001 x138002 x138003 x3).bind fun t138 => (if t138 = true then (mimesisref23_Check.l0 k (wrap64 (x3 + 1)) x138000 x138001 x138002 x138003) else (some 1))) else (mimesisref23_Check.l1 k 0 x138000 x138001 x138002 x138003)
def mimesisref23_Check.l1 : Nat → Int → List Int → List (S62) → List (S65) → Int → Option (Int)
 | 0, _, _, _, _, _ => none
 | k + 1, x4, x138000, x138001, x138002, x138003 => if x4 < (x138002.length : Int) then ((mimesisref23_leaves.f k x138000 x138001 x138002 x138003 x4).bind fun t139 => (if t139 = true then (mimesisref23_Check.l1 k (wrap64 (x4 + 1)) x138000 x138001 x138002 x138003) else (some 1))) else (mimesisref23_Check.l2 k 0 x138000 x138001 x138002 x138003)
def mimesisref23_Check.l2 : Nat → Int → List Int → List (S62) → List (S65) → Int → Option (Int)
 | 0, _, _, _, _, _ => none
 | k + 1, x5, x138000, x138001, x138002, x138003 => if x5 < (x138000.length : Int) then (if 0 ≤ x5 then (if (Int.tmod (rd x138000 x5) 4) = 0 then (mimesisref23_Check.l2 k (wrap64 (x5 + 1)) x138000 x138001 x138002 x138003) else (some 1)) else (none)) else (if (x138000.length : Int) = 0 then (some 1) else ((mimesisref23_exit.f k x138000 x138001 x138002 x138003 x138003 (x138001.length : Int)).bind fun t141 => (if t141 = true then (some 0) else (some 1))))
end
def mimesisref23_Check.f (k : Nat) (l0_0 : List Int) (l0_1 : List (S62)) (l0_2 : List (S65)) (a0_3 : Int) : Option (Int) := if (l0_0.length : Int) > 32 then (mimesisref23_Check.j0 k true l0_0 l0_1 l0_2 a0_3) else (if (l0_1.length : Int) > 512 then (mimesisref23_Check.j0 k true l0_0 l0_1 l0_2 a0_3) else (mimesisref23_Check.j0 k (decide ((l0_2.length : Int) > 128)) l0_0 l0_1 l0_2 a0_3))
set_option maxHeartbeats 8000000 in
set_option maxRecDepth 100000 in
theorem mimesisref23_Check.calls (k : Nat) (A0_0 : Option Addr) (c0_0 : Nat) (l0_0 : List Int) (A0_1 : Option Addr) (c0_1 : Nat) (l0_1 : List (S62)) (A0_2 : Option Addr) (c0_2 : Nat) (l0_2 : List (S65)) (a0_3 : Int) (r : Int) (w : World) (hr0_0 : Kd.C (Kd.int .u32) w A0_0 l0_0.length l0_0) (hc0_0 : l0_0.length ≤ c0_0) (hr0_1 : Kd.C k62 w A0_1 l0_1.length l0_1) (hc0_1 : l0_1.length ≤ c0_1) (hr0_2 : Kd.C k65 w A0_2 l0_2.length l0_2) (hc0_2 : l0_2.length ≤ c0_2) (h : mimesisref23_Check.f k l0_0 l0_1 l0_2 a0_3 = some r) :
  Calls Try.prog 16 #[.agg #[.slice A0_0 l0_0.length c0_0, .slice A0_1 l0_1.length c0_1, .slice A0_2 l0_2.length c0_2, .int .i64 a0_3]] w fun e w' => e = .returned (.int .i64 r) ∧ Below w.heap.size w w' := by
 have hu26 := Try.underlying26
 have HR0_0 := Aside0.mk hr0_0
 have HC0_0 := Aside0.mk hc0_0
 clear hr0_0 hc0_0
 have HR0_1 := Aside0.mk hr0_1
 have HC0_1 := Aside0.mk hc0_1
 clear hr0_1 hc0_1
 have HR0_2 := Aside0.mk hr0_2
 have HC0_2 := Aside0.mk hc0_2
 clear hr0_2 hc0_2
 have HB := Aside0.mk (Below.refl w.heap.size w)
 have H : (if (l0_0.length : Int) > 32 then (mimesisref23_Check.j0 k true l0_0 l0_1 l0_2 a0_3) else (if (l0_1.length : Int) > 512 then (mimesisref23_Check.j0 k true l0_0 l0_1 l0_2 a0_3) else (mimesisref23_Check.j0 k (decide ((l0_2.length : Int) > 128)) l0_0 l0_1 l0_2 a0_3))) = some r := h
 clear h
 have HC2 := Aside0.mk H
 clear H
 go_enter Try.func16, Try.ntmps16
 go_upto_region 1 with (first | ((with_reducible refine qB (N := 1) rfl ?_); (try (refine qP (by rfl) ?_; dsimp only)); refine qA ?hg (N := 1) ?hd (cs := #[.slice A0_0 l0_0.length c0_0, .slice A0_1 l0_1.length c0_1, .slice A0_2 l0_2.length c0_2, .int .i64 a0_3]) (t := 26) ?hr ?_; (case hd => rfl); (case hg => rfl); (case hr => first | (go_simp; done) | (go_simp; rfl)); intro gb137 hg w3 hbox hb; have n0_ := Aside0.mk (qq (by repeat (first | (with_reducible first | exact HB.out | apply qe | apply qc | apply qd) | exact HB.out)) hb); have n1_ := Aside0.mk (hbox); have n2_ := Aside0.mk ((by rw [hg]; exact (qr (by repeat (first | (with_reducible first | exact HB.out | apply qe | apply qc | apply qd) | exact HB.out))) : w.heap.size ≤ gb137)); have n3_ := Aside0.mk ((by rw [hg]; exact (qr (by repeat (first | (with_reducible first | exact HB.out | apply qe | apply qc | apply qd) | exact HB.out))) : w.heap.size ≤ gb137)); clear HB; have HB := n0_; have BK137 := n1_; have GW137 := n2_; have GE137 := n3_; clear n0_ n1_ n2_ n3_; clear hb hbox hg))
 (try simp only [Act.put, List.setIfInBounds_toArray, List.set_cons_zero, List.set_cons_succ])
 go_cut [21] (fun v21 wc => ∃ (kq : Nat) (x21_1 : Bool), v21 = .bool x21_1 ∧ Aside0 (mimesisref23_Check.j0 kq x21_1 l0_0 l0_1 l0_2 a0_3 = some r) ∧ Aside0 (kq ≤ k) ∧ Aside0 (wc.heap[gb137]? = some (.cells #[(.slice A0_0 l0_0.length c0_0), (.slice A0_1 l0_1.length c0_1), (.slice A0_2 l0_2.length c0_2), .int .i64 a0_3] 26 (0, 0))) ∧ Aside0 (Below w.heap.size w wc))
 case first =>
  have H := HC2.out
  clear HC2
  by_cases c4 : (l0_0.length : Int) > 32
  ·rw [if_pos c4] at H
   have c4b0 : decide (32 < (l0_0.length : Int)) = true := decide_eq_true c4
   have c4b1 : decide (32 < l0_0.length) = true := decide_eq_true (by omega)
   clear c4
   (first | rw [c4b0] | (simp only [i64_w, i32_w]; rw [c4b0]) | skip)
   have H' := Aside0.mk H
   clear H
   have hcz5_0 : w3.cell? ⟨gb137, 0, none⟩ = some (.slice A0_0 l0_0.length c0_0) := (qb BK137.out 0).trans rfl
   have hcz5_1 : w3.cell? ⟨gb137, 1, none⟩ = some (.slice A0_1 l0_1.length c0_1) := (qb BK137.out 1).trans rfl
   have hcz5_2 : w3.cell? ⟨gb137, 2, none⟩ = some (.slice A0_2 l0_2.length c0_2) := (qb BK137.out 2).trans rfl
   have hcz5_3 : w3.cell? ⟨gb137, 3, none⟩ = some (.int .i64 a0_3) := (qb BK137.out 3).trans rfl
   have hfz5_0 := qa BK137.out 0
   have hfz5_1 := qa BK137.out 1
   have hfz5_2 := qa BK137.out 2
   have hfz5_3 := qa BK137.out 3
   go_wp2
   go_meet
   case rel => exact ⟨_, (true), (by first | rfl | (simp; done) | (simp [*]; done)), H', ⟨by first | omega | exact Nat.le_refl _⟩, ⟨by (with_reducible repeat (first | refine qg ?_ _ | refine qi ?_ | refine qf ?_ _)); exact BK137.out⟩, ⟨by repeat (first | (with_reducible first | exact HB.out | apply qe | apply qc | apply qd | refine qh ?_ GE137.out) | exact HB.out)⟩⟩
  ·rw [if_neg c4] at H
   have c4b0 : decide (32 < (l0_0.length : Int)) = false := decide_eq_false c4
   have c4b1 : decide (32 < l0_0.length) = false := decide_eq_false (by omega)
   clear c4
   (first | rw [c4b0] | (simp only [i64_w, i32_w]; rw [c4b0]) | skip)
   by_cases c6 : (l0_1.length : Int) > 512
   ·rw [if_pos c6] at H
    have c6b0 : decide (512 < (l0_1.length : Int)) = true := decide_eq_true c6
    have c6b1 : decide (512 < l0_1.length) = true := decide_eq_true (by omega)
    clear c6
    have H' := Aside0.mk H
    clear H
    have hcz7_0 : w3.cell? ⟨gb137, 0, none⟩ = some (.slice A0_0 l0_0.length c0_0) := (qb BK137.out 0).trans rfl
    have hcz7_1 : w3.cell? ⟨gb137, 1, none⟩ = some (.slice A0_1 l0_1.length c0_1) := (qb BK137.out 1).trans rfl
    have hcz7_2 : w3.cell? ⟨gb137, 2, none⟩ = some (.slice A0_2 l0_2.length c0_2) := (qb BK137.out 2).trans rfl
    have hcz7_3 : w3.cell? ⟨gb137, 3, none⟩ = some (.int .i64 a0_3) := (qb BK137.out 3).trans rfl
    have hfz7_0 := qa BK137.out 0
    have hfz7_1 := qa BK137.out 1
    have hfz7_2 := qa BK137.out 2
    have hfz7_3 := qa BK137.out 3
    go_wp2
    go_meet
    case rel => exact ⟨_, (true), (by first | rfl | (simp; done) | (simp [*]; done)), H', ⟨by first | omega | exact Nat.le_refl _⟩, ⟨by (with_reducible repeat (first | refine qg ?_ _ | refine qi ?_ | refine qf ?_ _)); exact BK137.out⟩, ⟨by repeat (first | (with_reducible first | exact HB.out | apply qe | apply qc | apply qd | refine qh ?_ GE137.out) | exact HB.out)⟩⟩
   ·rw [if_neg c6] at H
    have c6b0 : decide (512 < (l0_1.length : Int)) = false := decide_eq_false c6
    have c6b1 : decide (512 < l0_1.length) = false := decide_eq_false (by omega)
    clear c6
    have H' := Aside0.mk H
    clear H
    have hcz8_0 : w3.cell? ⟨gb137, 0, none⟩ = some (.slice A0_0 l0_0.length c0_0) := (qb BK137.out 0).trans rfl
    have hcz8_1 : w3.cell? ⟨gb137, 1, none⟩ = some (.slice A0_1 l0_1.length c0_1) := (qb BK137.out 1).trans rfl
    have hcz8_2 : w3.cell? ⟨gb137, 2, none⟩ = some (.slice A0_2 l0_2.length c0_2) := (qb BK137.out 2).trans rfl
    have hcz8_3 : w3.cell? ⟨gb137, 3, none⟩ = some (.int .i64 a0_3) := (qb BK137.out 3).trans rfl
    have hfz8_0 := qa BK137.out 0
    have hfz8_1 := qa BK137.out 1
    have hfz8_2 := qa BK137.out 2
    have hfz8_3 := qa BK137.out 3
    go_wp2
    go_meet
    case rel => exact ⟨_, (decide ((l0_2.length : Int) > 128)), (by first | rfl | (simp; done) | (simp [*]; done)), H', ⟨by first | omega | exact Nat.le_refl _⟩, ⟨by (with_reducible repeat (first | refine qg ?_ _ | refine qi ?_ | refine qf ?_ _)); exact BK137.out⟩, ⟨by repeat (first | (with_reducible first | exact HB.out | apply qe | apply qc | apply qd | refine qh ?_ GE137.out) | exact HB.out)⟩⟩
 case rest =>
  clear HC2
  try clear c1
  try clear p2
  try clear c4
  try clear c4b0
  try clear c4b1
  try clear c6
  try clear c6b0
  try clear c6b1
  try clear hcz5_0
  try clear hcz5_1
  try clear hcz5_2
  try clear hcz5_3
  try clear hcz7_0
  try clear hcz7_1
  try clear hcz7_2
  try clear hcz7_3
  try clear hcz8_0
  try clear hcz8_1
  try clear hcz8_2
  try clear hcz8_3
  try clear hfz5_0
  try clear hfz5_1
  try clear hfz5_2
  try clear hfz5_3
  try clear hfz7_0
  try clear hfz7_1
  try clear hfz7_2
  try clear hfz7_3
  try clear hfz8_0
  try clear hfz8_1
  try clear hfz8_2
  try clear hfz8_3
  obtain ⟨kq, x21_1, rfl, HA, HJ1, BK137, HB⟩ := hcut
  cases kq with
  | zero => exact absurd HA.out (by simp [mimesisref23_Check.j0])
  | succ kj1 =>
   have H := HA.out
   clear HA
   simp only [mimesisref23_Check.j0] at H
   by_cases c9 : x21_1 = true
   ·subst c9
    have H1 : (some 3) = some r := by rw [if_pos rfl] at H; exact H
    clear H
    have H := H1
    clear H1
    obtain rfl := Option.some.inj H
    go_wp2
    go_ret
    exact ⟨by first | rfl | (simp [ql, qm] <;> rfl) | (simp [*, ql, qm] <;> rfl), by repeat (first | (with_reducible first | exact HB.out | apply qe | apply qc | apply qd | refine qh ?_ GE137.out) | exact HB.out)⟩
   ·replace c9 := Bool.eq_false_iff.mpr c9
    subst c9
    have H1 : (mimesisref23_Check.l0 kj1 0 l0_0 l0_1 l0_2 a0_3) = some r := by rw [if_neg (show ¬ (false = true) by decide)] at H; exact H
    clear H
    have H := H1
    clear H1
    have H' := Aside0.mk H
    clear H
    go_wp2
    go_loopg [3] kj1 (fun kq v3 w' => ∃ (x3_2 : Int), v3 = .int .i64 x3_2 ∧ Aside0 (mimesisref23_Check.l0 kq x3_2 l0_0 l0_1 l0_2 a0_3 = some r) ∧ Aside0 (kq ≤ kj1) ∧ Aside0 (w'.heap[gb137]? = some (.cells #[(.slice A0_0 l0_0.length c0_0), (.slice A0_1 l0_1.length c0_1), (.slice A0_2 l0_2.length c0_2), .int .i64 a0_3] 26 (0, 0))) ∧ Aside0 (Below w.heap.size w w'))
    case atStart => exact ⟨(0), (by first | rfl | (simp; done) | (simp [*]; done)), H', ⟨Nat.le_refl _⟩, ⟨by (with_reducible repeat (first | refine qg ?_ _ | refine qi ?_ | refine qf ?_ _)); exact BK137.out⟩, ⟨by repeat (first | (with_reducible first | exact HB.out | apply qe | apply qc | apply qd | refine qh ?_ GE137.out) | exact HB.out)⟩⟩
    case round =>
     clear H'
     try clear c1
     try clear p2
     try clear c4
     try clear c4b0
     try clear c4b1
     try clear c6
     try clear c6b0
     try clear c6b1
     try clear c9
     try clear hcz5_0
     try clear hcz5_1
     try clear hcz5_2
     try clear hcz5_3
     try clear hcz7_0
     try clear hcz7_1
     try clear hcz7_2
     try clear hcz7_3
     try clear hcz8_0
     try clear hcz8_1
     try clear hcz8_2
     try clear hcz8_3
     try clear hfz5_0
     try clear hfz5_1
     try clear hfz5_2
     try clear hfz5_3
     try clear hfz7_0
     try clear hfz7_1
     try clear hfz7_2
     try clear hfz7_3
     try clear hfz8_0
     try clear hfz8_1
     try clear hfz8_2
     try clear hfz8_3
     try clear p2
     obtain ⟨x3_2, rfl, HA, HK2, BK137, HB⟩ := hrel
     cases gk with
     | zero => exact absurd HA.out (by simp [mimesisref23_Check.l0])
     | succ k2 =>
      have H := HA.out
      clear HA
      simp only [mimesisref23_Check.l0] at H
      by_cases c10 : x3_2 < (l0_1.length : Int)
      ·rw [if_pos c10] at H
       have c10b0 : decide (x3_2 < (l0_1.length : Int)) = true := decide_eq_true c10
       clear c10
       replace H := Option.bind_eq_some_iff.mp H
       obtain ⟨t138, A110, H⟩ := H
       replace H : (if t138 = true then (mimesisref23_Check.l0 k2 (wrap64 (x3_2 + 1)) l0_0 l0_1 l0_2 a0_3) else (some 1)) = some r := H
       have A11 := Aside0.mk A110
       clear A110
       by_cases c12 : t138 = true
       ·subst c12
        have H1 : (mimesisref23_Check.l0 k2 (wrap64 (x3_2 + 1)) l0_0 l0_1 l0_2 a0_3) = some r := by rw [if_pos rfl] at H; exact H
        clear H
        have H := H1
        clear H1
        have H' := Aside0.mk H
        clear H
        have hcz13_0 : wr.cell? ⟨gb137, 0, none⟩ = some (.slice A0_0 l0_0.length c0_0) := (qb BK137.out 0).trans rfl
        have hcz13_1 : wr.cell? ⟨gb137, 1, none⟩ = some (.slice A0_1 l0_1.length c0_1) := (qb BK137.out 1).trans rfl
        have hcz13_2 : wr.cell? ⟨gb137, 2, none⟩ = some (.slice A0_2 l0_2.length c0_2) := (qb BK137.out 2).trans rfl
        have hcz13_3 : wr.cell? ⟨gb137, 3, none⟩ = some (.int .i64 a0_3) := (qb BK137.out 3).trans rfl
        have hfz13_0 := qa BK137.out 0
        have hfz13_1 := qa BK137.out 1
        have hfz13_2 := qa BK137.out 2
        have hfz13_3 := qa BK137.out 3
        go_wp2_with (first | ((with_reducible refine qw (f := 47) rfl ?_); refine qN (some 31) rfl rfl Try.func47 (by kernel_rfl) rfl #[.agg #[.slice A0_0 l0_0.length c0_0, .slice A0_1 l0_1.length c0_1, .slice A0_2 l0_2.length c0_2, .int .i64 a0_3], .int .i64 x3_2] rfl (by (try simp only [List.map_toArray, List.map_cons, List.map_nil]); first | done | rfl | (simp only [List.length_drop, List.length_take]; rfl)) ?_; (with_reducible refine (mimesisref23_op.calls k2 _ _ l0_0 _ _ l0_1 _ _ l0_2 a0_3 x3_2 true _ ?side1 ?side2 ?side3 ?side4 ?side5 ?side6 A11.out).mono ?_); (case side1 => repeat (first | exact (Kd.qn HR0_0.out HB.out) | (with_reducible refine Kd.qu ?_ _) | (with_reducible refine Kd.qv ?_ _) | (with_reducible refine Kd.qx ?_))); (case side2 => exact HC0_0.out); (case side3 => repeat (first | exact (Kd.qn HR0_1.out HB.out) | (with_reducible refine Kd.qu ?_ _) | (with_reducible refine Kd.qv ?_ _) | (with_reducible refine Kd.qx ?_))); (case side4 => exact HC0_1.out); (case side5 => repeat (first | exact (Kd.qn HR0_2.out HB.out) | (with_reducible refine Kd.qu ?_ _) | (with_reducible refine Kd.qv ?_ _) | (with_reducible refine Kd.qx ?_))); (case side6 => exact HC0_2.out); rintro e w14 ⟨rfl, hb⟩; refine ⟨_, rfl, ?_⟩; have n0_ := Aside0.mk (qo (g := gb137) (o := .cells #[.slice A0_0 l0_0.length c0_0, .slice A0_1 l0_1.length c0_1, .slice A0_2 l0_2.length c0_2, .int .i64 a0_3] 26 (0, 0)) (by (with_reducible repeat (first | refine qg ?_ _ | refine qi ?_ | refine qf ?_ _)); exact BK137.out) hb); have n1_ := Aside0.mk (qq (by repeat (first | (with_reducible first | exact HB.out | apply qe | apply qc | apply qd | refine qh ?_ GE137.out) | exact HB.out)) hb); clear BK137; clear HB; have BK137 := n0_; have HB := n1_; clear n0_ n1_; (try clear hb); (try clear hb2); (try clear hk); (try clear hi)))
        go_roundg k2
        case measure => have := HJ1.out; have := HK2.out; omega
        case rel => exact ⟨(wrap64 (x3_2 + 1)), (by first | rfl | (simp; done) | (simp [*]; done)), H', ⟨by have := HJ1.out; have := HK2.out; omega⟩, ⟨by (with_reducible repeat (first | refine qg ?_ _ | refine qi ?_ | refine qf ?_ _)); exact BK137.out⟩, ⟨by repeat (first | (with_reducible first | exact HB.out | apply qe | apply qc | apply qd | refine qh ?_ GE137.out) | exact HB.out)⟩⟩
       ·replace c12 := Bool.eq_false_iff.mpr c12
        subst c12
        have H1 : (some 1) = some r := by rw [if_neg (show ¬ (false = true) by decide)] at H; exact H
        clear H
        have H := H1
        clear H1
        obtain rfl := Option.some.inj H
        have hcz15_0 : wr.cell? ⟨gb137, 0, none⟩ = some (.slice A0_0 l0_0.length c0_0) := (qb BK137.out 0).trans rfl
        have hcz15_1 : wr.cell? ⟨gb137, 1, none⟩ = some (.slice A0_1 l0_1.length c0_1) := (qb BK137.out 1).trans rfl
        have hcz15_2 : wr.cell? ⟨gb137, 2, none⟩ = some (.slice A0_2 l0_2.length c0_2) := (qb BK137.out 2).trans rfl
        have hcz15_3 : wr.cell? ⟨gb137, 3, none⟩ = some (.int .i64 a0_3) := (qb BK137.out 3).trans rfl
        have hfz15_0 := qa BK137.out 0
        have hfz15_1 := qa BK137.out 1
        have hfz15_2 := qa BK137.out 2
        have hfz15_3 := qa BK137.out 3
        go_wp2_with (first | ((with_reducible refine qw (f := 47) rfl ?_); refine qN (some 31) rfl rfl Try.func47 (by kernel_rfl) rfl #[.agg #[.slice A0_0 l0_0.length c0_0, .slice A0_1 l0_1.length c0_1, .slice A0_2 l0_2.length c0_2, .int .i64 a0_3], .int .i64 x3_2] rfl (by (try simp only [List.map_toArray, List.map_cons, List.map_nil]); first | done | rfl | (simp only [List.length_drop, List.length_take]; rfl)) ?_; (with_reducible refine (mimesisref23_op.calls k2 _ _ l0_0 _ _ l0_1 _ _ l0_2 a0_3 x3_2 false _ ?side1 ?side2 ?side3 ?side4 ?side5 ?side6 A11.out).mono ?_); (case side1 => repeat (first | exact (Kd.qn HR0_0.out HB.out) | (with_reducible refine Kd.qu ?_ _) | (with_reducible refine Kd.qv ?_ _) | (with_reducible refine Kd.qx ?_))); (case side2 => exact HC0_0.out); (case side3 => repeat (first | exact (Kd.qn HR0_1.out HB.out) | (with_reducible refine Kd.qu ?_ _) | (with_reducible refine Kd.qv ?_ _) | (with_reducible refine Kd.qx ?_))); (case side4 => exact HC0_1.out); (case side5 => repeat (first | exact (Kd.qn HR0_2.out HB.out) | (with_reducible refine Kd.qu ?_ _) | (with_reducible refine Kd.qv ?_ _) | (with_reducible refine Kd.qx ?_))); (case side6 => exact HC0_2.out); rintro e w16 ⟨rfl, hb⟩; refine ⟨_, rfl, ?_⟩; have n0_ := Aside0.mk (qo (g := gb137) (o := .cells #[.slice A0_0 l0_0.length c0_0, .slice A0_1 l0_1.length c0_1, .slice A0_2 l0_2.length c0_2, .int .i64 a0_3] 26 (0, 0)) (by (with_reducible repeat (first | refine qg ?_ _ | refine qi ?_ | refine qf ?_ _)); exact BK137.out) hb); have n1_ := Aside0.mk (qq (by repeat (first | (with_reducible first | exact HB.out | apply qe | apply qc | apply qd | refine qh ?_ GE137.out) | exact HB.out)) hb); clear BK137; clear HB; have BK137 := n0_; have HB := n1_; clear n0_ n1_; (try clear hb); (try clear hb2); (try clear hk); (try clear hi)))
        go_ret
        exact ⟨by first | rfl | (simp [ql, qm] <;> rfl) | (simp [*, ql, qm] <;> rfl), by repeat (first | (with_reducible first | exact HB.out | apply qe | apply qc | apply qd | refine qh ?_ GE137.out) | exact HB.out)⟩
      ·rw [if_neg c10] at H
       have c10b0 : decide (x3_2 < (l0_1.length : Int)) = false := decide_eq_false c10
       clear c10
       have H' := Aside0.mk H
       clear H
       have hcz17_0 : wr.cell? ⟨gb137, 0, none⟩ = some (.slice A0_0 l0_0.length c0_0) := (qb BK137.out 0).trans rfl
       have hcz17_1 : wr.cell? ⟨gb137, 1, none⟩ = some (.slice A0_1 l0_1.length c0_1) := (qb BK137.out 1).trans rfl
       have hcz17_2 : wr.cell? ⟨gb137, 2, none⟩ = some (.slice A0_2 l0_2.length c0_2) := (qb BK137.out 2).trans rfl
       have hcz17_3 : wr.cell? ⟨gb137, 3, none⟩ = some (.int .i64 a0_3) := (qb BK137.out 3).trans rfl
       have hfz17_0 := qa BK137.out 0
       have hfz17_1 := qa BK137.out 1
       have hfz17_2 := qa BK137.out 2
       have hfz17_3 := qa BK137.out 3
       go_wp2
       go_loopg [4] k2 (fun kq v4 w' => ∃ (x4_3 : Int), v4 = .int .i64 x4_3 ∧ Aside0 (mimesisref23_Check.l1 kq x4_3 l0_0 l0_1 l0_2 a0_3 = some r) ∧ Aside0 (kq ≤ k2) ∧ Aside0 (w'.heap[gb137]? = some (.cells #[(.slice A0_0 l0_0.length c0_0), (.slice A0_1 l0_1.length c0_1), (.slice A0_2 l0_2.length c0_2), .int .i64 a0_3] 26 (0, 0))) ∧ Aside0 (Below w.heap.size w w'))
       case atStart => exact ⟨(0), (by first | rfl | (simp; done) | (simp [*]; done)), H', ⟨Nat.le_refl _⟩, ⟨by (with_reducible repeat (first | refine qg ?_ _ | refine qi ?_ | refine qf ?_ _)); exact BK137.out⟩, ⟨by repeat (first | (with_reducible first | exact HB.out | apply qe | apply qc | apply qd | refine qh ?_ GE137.out) | exact HB.out)⟩⟩
       case round =>
        clear H'
        try clear c1
        try clear p2
        try clear c4
        try clear c4b0
        try clear c4b1
        try clear c6
        try clear c6b0
        try clear c6b1
        try clear p6
        try clear c9
        try clear c10
        try clear c10b0
        try clear c12
        try clear c16
        try clear hcz13_0
        try clear hcz13_1
        try clear hcz13_2
        try clear hcz13_3
        try clear hcz15_0
        try clear hcz15_1
        try clear hcz15_2
        try clear hcz15_3
        try clear hcz17_0
        try clear hcz17_1
        try clear hcz17_2
        try clear hcz17_3
        try clear hcz5_0
        try clear hcz5_1
        try clear hcz5_2
        try clear hcz5_3
        try clear hcz7_0
        try clear hcz7_1
        try clear hcz7_2
        try clear hcz7_3
        try clear hcz8_0
        try clear hcz8_1
        try clear hcz8_2
        try clear hcz8_3
        try clear hfz13_0
        try clear hfz13_1
        try clear hfz13_2
        try clear hfz13_3
        try clear hfz15_0
        try clear hfz15_1
        try clear hfz15_2
        try clear hfz15_3
        try clear hfz17_0
        try clear hfz17_1
        try clear hfz17_2
        try clear hfz17_3
        try clear hfz5_0
        try clear hfz5_1
        try clear hfz5_2
        try clear hfz5_3
        try clear hfz7_0
        try clear hfz7_1
        try clear hfz7_2
        try clear hfz7_3
        try clear hfz8_0
        try clear hfz8_1
        try clear hfz8_2
        try clear hfz8_3
        try clear p2
        obtain ⟨x4_3, rfl, HA, HK3, BK137, HB⟩ := hrel
        cases gk with
        | zero => exact absurd HA.out (by simp [mimesisref23_Check.l1])
        | succ k3 =>
         have H := HA.out
         clear HA
         simp only [mimesisref23_Check.l1] at H
         by_cases c18 : x4_3 < (l0_2.length : Int)
         ·rw [if_pos c18] at H
          have c18b0 : decide (x4_3 < (l0_2.length : Int)) = true := decide_eq_true c18
          clear c18
          replace H := Option.bind_eq_some_iff.mp H
          obtain ⟨t139, A190, H⟩ := H
          replace H : (if t139 = true then (mimesisref23_Check.l1 k3 (wrap64 (x4_3 + 1)) l0_0 l0_1 l0_2 a0_3) else (some 1)) = some r := H
          have A19 := Aside0.mk A190
          clear A190
          by_cases c20 : t139 = true
          ·subst c20
           have H1 : (mimesisref23_Check.l1 k3 (wrap64 (x4_3 + 1)) l0_0 l0_1 l0_2 a0_3) = some r := by rw [if_pos rfl] at H; exact H
           clear H
           have H := H1
           clear H1
           have H' := Aside0.mk H
           clear H
           have hcz21_0 : wr.cell? ⟨gb137, 0, none⟩ = some (.slice A0_0 l0_0.length c0_0) := (qb BK137.out 0).trans rfl
           have hcz21_1 : wr.cell? ⟨gb137, 1, none⟩ = some (.slice A0_1 l0_1.length c0_1) := (qb BK137.out 1).trans rfl
           have hcz21_2 : wr.cell? ⟨gb137, 2, none⟩ = some (.slice A0_2 l0_2.length c0_2) := (qb BK137.out 2).trans rfl
           have hcz21_3 : wr.cell? ⟨gb137, 3, none⟩ = some (.int .i64 a0_3) := (qb BK137.out 3).trans rfl
           have hfz21_0 := qa BK137.out 0
           have hfz21_1 := qa BK137.out 1
           have hfz21_2 := qa BK137.out 2
           have hfz21_3 := qa BK137.out 3
           go_wp2_with (first | ((with_reducible refine qw (f := 48) rfl ?_); refine qN (some 42) rfl rfl Try.func48 (by kernel_rfl) rfl #[.agg #[.slice A0_0 l0_0.length c0_0, .slice A0_1 l0_1.length c0_1, .slice A0_2 l0_2.length c0_2, .int .i64 a0_3], .int .i64 x4_3] rfl (by (try simp only [List.map_toArray, List.map_cons, List.map_nil]); first | done | rfl | (simp only [List.length_drop, List.length_take]; rfl)) ?_; (with_reducible refine (mimesisref23_leaves.calls k3 _ _ l0_0 _ _ l0_1 _ _ l0_2 a0_3 x4_3 true _ ?side1 ?side2 ?side3 ?side4 ?side5 ?side6 A19.out).mono ?_); (case side1 => repeat (first | exact (Kd.qn HR0_0.out HB.out) | (with_reducible refine Kd.qu ?_ _) | (with_reducible refine Kd.qv ?_ _) | (with_reducible refine Kd.qx ?_))); (case side2 => exact HC0_0.out); (case side3 => repeat (first | exact (Kd.qn HR0_1.out HB.out) | (with_reducible refine Kd.qu ?_ _) | (with_reducible refine Kd.qv ?_ _) | (with_reducible refine Kd.qx ?_))); (case side4 => exact HC0_1.out); (case side5 => repeat (first | exact (Kd.qn HR0_2.out HB.out) | (with_reducible refine Kd.qu ?_ _) | (with_reducible refine Kd.qv ?_ _) | (with_reducible refine Kd.qx ?_))); (case side6 => exact HC0_2.out); rintro e w22 ⟨rfl, hb⟩; refine ⟨_, rfl, ?_⟩; have n0_ := Aside0.mk (qo (g := gb137) (o := .cells #[.slice A0_0 l0_0.length c0_0, .slice A0_1 l0_1.length c0_1, .slice A0_2 l0_2.length c0_2, .int .i64 a0_3] 26 (0, 0)) (by (with_reducible repeat (first | refine qg ?_ _ | refine qi ?_ | refine qf ?_ _)); exact BK137.out) hb); have n1_ := Aside0.mk (qq (by repeat (first | (with_reducible first | exact HB.out | apply qe | apply qc | apply qd | refine qh ?_ GE137.out) | exact HB.out)) hb); clear BK137; clear HB; have BK137 := n0_; have HB := n1_; clear n0_ n1_; (try clear hb); (try clear hb2); (try clear hk); (try clear hi)))
           go_roundg k3
           case measure => have := HJ1.out; have := HK2.out; have := HK3.out; omega
           case rel => exact ⟨(wrap64 (x4_3 + 1)), (by first | rfl | (simp; done) | (simp [*]; done)), H', ⟨by have := HJ1.out; have := HK2.out; have := HK3.out; omega⟩, ⟨by (with_reducible repeat (first | refine qg ?_ _ | refine qi ?_ | refine qf ?_ _)); exact BK137.out⟩, ⟨by repeat (first | (with_reducible first | exact HB.out | apply qe | apply qc | apply qd | refine qh ?_ GE137.out) | exact HB.out)⟩⟩
          ·replace c20 := Bool.eq_false_iff.mpr c20
           subst c20
           have H1 : (some 1) = some r := by rw [if_neg (show ¬ (false = true) by decide)] at H; exact H
           clear H
           have H := H1
           clear H1
           obtain rfl := Option.some.inj H
           have hcz23_0 : wr.cell? ⟨gb137, 0, none⟩ = some (.slice A0_0 l0_0.length c0_0) := (qb BK137.out 0).trans rfl
           have hcz23_1 : wr.cell? ⟨gb137, 1, none⟩ = some (.slice A0_1 l0_1.length c0_1) := (qb BK137.out 1).trans rfl
           have hcz23_2 : wr.cell? ⟨gb137, 2, none⟩ = some (.slice A0_2 l0_2.length c0_2) := (qb BK137.out 2).trans rfl
           have hcz23_3 : wr.cell? ⟨gb137, 3, none⟩ = some (.int .i64 a0_3) := (qb BK137.out 3).trans rfl
           have hfz23_0 := qa BK137.out 0
           have hfz23_1 := qa BK137.out 1
           have hfz23_2 := qa BK137.out 2
           have hfz23_3 := qa BK137.out 3
           go_wp2_with (first | ((with_reducible refine qw (f := 48) rfl ?_); refine qN (some 42) rfl rfl Try.func48 (by kernel_rfl) rfl #[.agg #[.slice A0_0 l0_0.length c0_0, .slice A0_1 l0_1.length c0_1, .slice A0_2 l0_2.length c0_2, .int .i64 a0_3], .int .i64 x4_3] rfl (by (try simp only [List.map_toArray, List.map_cons, List.map_nil]); first | done | rfl | (simp only [List.length_drop, List.length_take]; rfl)) ?_; (with_reducible refine (mimesisref23_leaves.calls k3 _ _ l0_0 _ _ l0_1 _ _ l0_2 a0_3 x4_3 false _ ?side1 ?side2 ?side3 ?side4 ?side5 ?side6 A19.out).mono ?_); (case side1 => repeat (first | exact (Kd.qn HR0_0.out HB.out) | (with_reducible refine Kd.qu ?_ _) | (with_reducible refine Kd.qv ?_ _) | (with_reducible refine Kd.qx ?_))); (case side2 => exact HC0_0.out); (case side3 => repeat (first | exact (Kd.qn HR0_1.out HB.out) | (with_reducible refine Kd.qu ?_ _) | (with_reducible refine Kd.qv ?_ _) | (with_reducible refine Kd.qx ?_))); (case side4 => exact HC0_1.out); (case side5 => repeat (first | exact (Kd.qn HR0_2.out HB.out) | (with_reducible refine Kd.qu ?_ _) | (with_reducible refine Kd.qv ?_ _) | (with_reducible refine Kd.qx ?_))); (case side6 => exact HC0_2.out); rintro e w24 ⟨rfl, hb⟩; refine ⟨_, rfl, ?_⟩; have n0_ := Aside0.mk (qo (g := gb137) (o := .cells #[.slice A0_0 l0_0.length c0_0, .slice A0_1 l0_1.length c0_1, .slice A0_2 l0_2.length c0_2, .int .i64 a0_3] 26 (0, 0)) (by (with_reducible repeat (first | refine qg ?_ _ | refine qi ?_ | refine qf ?_ _)); exact BK137.out) hb); have n1_ := Aside0.mk (qq (by repeat (first | (with_reducible first | exact HB.out | apply qe | apply qc | apply qd | refine qh ?_ GE137.out) | exact HB.out)) hb); clear BK137; clear HB; have BK137 := n0_; have HB := n1_; clear n0_ n1_; (try clear hb); (try clear hb2); (try clear hk); (try clear hi)))
           go_ret
           exact ⟨by first | rfl | (simp [ql, qm] <;> rfl) | (simp [*, ql, qm] <;> rfl), by repeat (first | (with_reducible first | exact HB.out | apply qe | apply qc | apply qd | refine qh ?_ GE137.out) | exact HB.out)⟩
         ·rw [if_neg c18] at H
          have c18b0 : decide (x4_3 < (l0_2.length : Int)) = false := decide_eq_false c18
          clear c18
          have H' := Aside0.mk H
          clear H
          have hcz25_0 : wr.cell? ⟨gb137, 0, none⟩ = some (.slice A0_0 l0_0.length c0_0) := (qb BK137.out 0).trans rfl
          have hcz25_1 : wr.cell? ⟨gb137, 1, none⟩ = some (.slice A0_1 l0_1.length c0_1) := (qb BK137.out 1).trans rfl
          have hcz25_2 : wr.cell? ⟨gb137, 2, none⟩ = some (.slice A0_2 l0_2.length c0_2) := (qb BK137.out 2).trans rfl
          have hcz25_3 : wr.cell? ⟨gb137, 3, none⟩ = some (.int .i64 a0_3) := (qb BK137.out 3).trans rfl
          have hfz25_0 := qa BK137.out 0
          have hfz25_1 := qa BK137.out 1
          have hfz25_2 := qa BK137.out 2
          have hfz25_3 := qa BK137.out 3
          go_wp2
          go_loopg [5] k3 (fun kq v5 w' => ∃ (x5_4 : Int), v5 = .int .i64 x5_4 ∧ Aside0 (mimesisref23_Check.l2 kq x5_4 l0_0 l0_1 l0_2 a0_3 = some r) ∧ Aside0 (kq ≤ k3) ∧ Aside0 (w'.heap[gb137]? = some (.cells #[(.slice A0_0 l0_0.length c0_0), (.slice A0_1 l0_1.length c0_1), (.slice A0_2 l0_2.length c0_2), .int .i64 a0_3] 26 (0, 0))) ∧ Aside0 (Below w.heap.size w w'))
          case atStart => exact ⟨(0), (by first | rfl | (simp; done) | (simp [*]; done)), H', ⟨Nat.le_refl _⟩, ⟨by (with_reducible repeat (first | refine qg ?_ _ | refine qi ?_ | refine qf ?_ _)); exact BK137.out⟩, ⟨by repeat (first | (with_reducible first | exact HB.out | apply qe | apply qc | apply qd | refine qh ?_ GE137.out) | exact HB.out)⟩⟩
          case round =>
           clear H'
           try clear c1
           try clear c2
           try clear p2
           try clear c4
           try clear c4b0
           try clear c4b1
           try clear c6
           try clear c6b0
           try clear c6b1
           try clear p6
           try clear c9
           try clear c10
           try clear c10b0
           try clear c12
           try clear c16
           try clear c18
           try clear c18b0
           try clear c20
           try clear hcz13_0
           try clear hcz13_1
           try clear hcz13_2
           try clear hcz13_3
           try clear hcz15_0
           try clear hcz15_1
           try clear hcz15_2
           try clear hcz15_3
           try clear hcz17_0
           try clear hcz17_1
           try clear hcz17_2
           try clear hcz17_3
           try clear hcz21_0
           try clear hcz21_1
           try clear hcz21_2
           try clear hcz21_3
           try clear hcz23_0
           try clear hcz23_1
           try clear hcz23_2
           try clear hcz23_3
           try clear hcz25_0
           try clear hcz25_1
           try clear hcz25_2
           try clear hcz25_3
           try clear hcz5_0
           try clear hcz5_1
           try clear hcz5_2
           try clear hcz5_3
           try clear hcz7_0
           try clear hcz7_1
           try clear hcz7_2
           try clear hcz7_3
           try clear hcz8_0
           try clear hcz8_1
           try clear hcz8_2
           try clear hcz8_3
           try clear hfz13_0
           try clear hfz13_1
           try clear hfz13_2
           try clear hfz13_3
           try clear hfz15_0
           try clear hfz15_1
           try clear hfz15_2
           try clear hfz15_3
           try clear hfz17_0
           try clear hfz17_1
           try clear hfz17_2
           try clear hfz17_3
           try clear hfz21_0
           try clear hfz21_1
           try clear hfz21_2
           try clear hfz21_3
           try clear hfz23_0
           try clear hfz23_1
           try clear hfz23_2
           try clear hfz23_3
           try clear hfz25_0
           try clear hfz25_1
           try clear hfz25_2
           try clear hfz25_3
           try clear hfz5_0
           try clear hfz5_1
           try clear hfz5_2
           try clear hfz5_3
           try clear hfz7_0
           try clear hfz7_1
           try clear hfz7_2
           try clear hfz7_3
           try clear hfz8_0
           try clear hfz8_1
           try clear hfz8_2
           try clear hfz8_3
           try clear p2
           try clear p6
           obtain ⟨x5_4, rfl, HA, HK4, BK137, HB⟩ := hrel
           cases gk with
           | zero => exact absurd HA.out (by simp [mimesisref23_Check.l2])
           | succ k4 =>
            have H := HA.out
            clear HA
            simp only [mimesisref23_Check.l2] at H
            by_cases c26 : x5_4 < (l0_0.length : Int)
            ·rw [if_pos c26] at H
             have c26b0 : decide (x5_4 < (l0_0.length : Int)) = true := decide_eq_true c26
             clear c26
             by_cases c27 : 0 ≤ x5_4
             ·rw [if_pos c27] at H
              have c27b0 : decide (0 ≤ x5_4) = true := decide_eq_true c27
              clear c27
              by_cases c28 : (Int.tmod (rd l0_0 x5_4) 4) = 0
              ·rw [if_pos c28] at H
               have c28b0 : ((Int.tmod (rd l0_0 x5_4) 4) == 0) = true := beq_iff_eq.mpr c28
               have c28b1 : ((Int.tmod (rd l0_0 x5_4) 4) != 0) = false := bne_eq_false_iff_eq.mpr c28
               clear c28
               have H' := Aside0.mk H
               clear H
               have hcz29_0 : wr.cell? ⟨gb137, 0, none⟩ = some (.slice A0_0 l0_0.length c0_0) := (qb BK137.out 0).trans rfl
               have hcz29_1 : wr.cell? ⟨gb137, 1, none⟩ = some (.slice A0_1 l0_1.length c0_1) := (qb BK137.out 1).trans rfl
               have hcz29_2 : wr.cell? ⟨gb137, 2, none⟩ = some (.slice A0_2 l0_2.length c0_2) := (qb BK137.out 2).trans rfl
               have hcz29_3 : wr.cell? ⟨gb137, 3, none⟩ = some (.int .i64 a0_3) := (qb BK137.out 3).trans rfl
               have hfz29_0 := qa BK137.out 0
               have hfz29_1 := qa BK137.out 1
               have hfz29_2 := qa BK137.out 2
               have hfz29_3 := qa BK137.out 3
               have p140 : 0 ≤ (x5_4 : Int) := of_decide_eq_true (by assumption)
               have q140 : x5_4 < (l0_0.length : Int) := of_decide_eq_true (by assumption)
               obtain ⟨ad140, e140, hx140_0⟩ := Kd.at_int HR0_0.out x5_4 p140 q140
               cases e140
               replace hx140_0 := (HB.out.cell (blc9 w _ hx140_0)).trans hx140_0
               replace p140 := eq_true p140
               replace q140 := eq_true q140
               go_wp2
               go_roundg k4
               case measure => have := HJ1.out; have := HK2.out; have := HK3.out; have := HK4.out; omega
               case rel => exact ⟨(wrap64 (x5_4 + 1)), (by first | rfl | (simp; done) | (simp [*]; done)), H', ⟨by have := HJ1.out; have := HK2.out; have := HK3.out; have := HK4.out; omega⟩, ⟨by (with_reducible repeat (first | refine qg ?_ _ | refine qi ?_ | refine qf ?_ _)); exact BK137.out⟩, ⟨by repeat (first | (with_reducible first | exact HB.out | apply qe | apply qc | apply qd | refine qh ?_ GE137.out) | exact HB.out)⟩⟩
              ·rw [if_neg c28] at H
               have c28b0 : ((Int.tmod (rd l0_0 x5_4) 4) == 0) = false := beq_eq_false_iff_ne.mpr c28
               have c28b1 : ((Int.tmod (rd l0_0 x5_4) 4) != 0) = true := bne_iff_ne.mpr c28
               obtain rfl := Option.some.inj H
               have hcz30_0 : wr.cell? ⟨gb137, 0, none⟩ = some (.slice A0_0 l0_0.length c0_0) := (qb BK137.out 0).trans rfl
               have hcz30_1 : wr.cell? ⟨gb137, 1, none⟩ = some (.slice A0_1 l0_1.length c0_1) := (qb BK137.out 1).trans rfl
               have hcz30_2 : wr.cell? ⟨gb137, 2, none⟩ = some (.slice A0_2 l0_2.length c0_2) := (qb BK137.out 2).trans rfl
               have hcz30_3 : wr.cell? ⟨gb137, 3, none⟩ = some (.int .i64 a0_3) := (qb BK137.out 3).trans rfl
               have hfz30_0 := qa BK137.out 0
               have hfz30_1 := qa BK137.out 1
               have hfz30_2 := qa BK137.out 2
               have hfz30_3 := qa BK137.out 3
               have p140 : 0 ≤ (x5_4 : Int) := of_decide_eq_true (by assumption)
               have q140 : x5_4 < (l0_0.length : Int) := of_decide_eq_true (by assumption)
               obtain ⟨ad140, e140, hx140_0⟩ := Kd.at_int HR0_0.out x5_4 p140 q140
               cases e140
               replace hx140_0 := (HB.out.cell (blc9 w _ hx140_0)).trans hx140_0
               replace p140 := eq_true p140
               replace q140 := eq_true q140
               go_wp2
               go_ret
               exact ⟨by first | rfl | (simp [ql, qm] <;> rfl) | (simp [*, ql, qm] <;> rfl), by repeat (first | (with_reducible first | exact HB.out | apply qe | apply qc | apply qd | refine qh ?_ GE137.out) | exact HB.out)⟩
             ·rw [if_neg c27] at H
              exact absurd H (by simp)
            ·rw [if_neg c26] at H
             have c26b0 : decide (x5_4 < (l0_0.length : Int)) = false := decide_eq_false c26
             clear c26
             by_cases c31 : (l0_0.length : Int) = 0
             ·rw [if_pos c31] at H
              have c31b0 : ((l0_0.length : Int) == 0) = true := beq_iff_eq.mpr c31
              have c31b1 : ((l0_0.length : Int) != 0) = false := bne_eq_false_iff_eq.mpr c31
              clear c31
              obtain rfl := Option.some.inj H
              have hcz32_0 : wr.cell? ⟨gb137, 0, none⟩ = some (.slice A0_0 l0_0.length c0_0) := (qb BK137.out 0).trans rfl
              have hcz32_1 : wr.cell? ⟨gb137, 1, none⟩ = some (.slice A0_1 l0_1.length c0_1) := (qb BK137.out 1).trans rfl
              have hcz32_2 : wr.cell? ⟨gb137, 2, none⟩ = some (.slice A0_2 l0_2.length c0_2) := (qb BK137.out 2).trans rfl
              have hcz32_3 : wr.cell? ⟨gb137, 3, none⟩ = some (.int .i64 a0_3) := (qb BK137.out 3).trans rfl
              have hfz32_0 := qa BK137.out 0
              have hfz32_1 := qa BK137.out 1
              have hfz32_2 := qa BK137.out 2
              have hfz32_3 := qa BK137.out 3
              go_wp2
              go_ret
              exact ⟨by first | rfl | (simp [ql, qm] <;> rfl) | (simp [*, ql, qm] <;> rfl), by repeat (first | (with_reducible first | exact HB.out | apply qe | apply qc | apply qd | refine qh ?_ GE137.out) | exact HB.out)⟩
             ·rw [if_neg c31] at H
              have c31b0 : ((l0_0.length : Int) == 0) = false := beq_eq_false_iff_ne.mpr c31
              have c31b1 : ((l0_0.length : Int) != 0) = true := bne_iff_ne.mpr c31
              have c31b2 : ¬ (l0_0 = []) := fun h_ => c31 (by rw [h_]; rfl)
              replace H := Option.bind_eq_some_iff.mp H
              obtain ⟨t141, A330, H⟩ := H
              replace H : (if t141 = true then (some 0) else (some 1)) = some r := H
              have A33 := Aside0.mk A330
              clear A330
              by_cases c34 : t141 = true
              ·subst c34
               have H1 : (some 0) = some r := by rw [if_pos rfl] at H; exact H
               clear H
               have H := H1
               clear H1
               obtain rfl := Option.some.inj H
               have hcz35_0 : wr.cell? ⟨gb137, 0, none⟩ = some (.slice A0_0 l0_0.length c0_0) := (qb BK137.out 0).trans rfl
               have hcz35_1 : wr.cell? ⟨gb137, 1, none⟩ = some (.slice A0_1 l0_1.length c0_1) := (qb BK137.out 1).trans rfl
               have hcz35_2 : wr.cell? ⟨gb137, 2, none⟩ = some (.slice A0_2 l0_2.length c0_2) := (qb BK137.out 2).trans rfl
               have hcz35_3 : wr.cell? ⟨gb137, 3, none⟩ = some (.int .i64 a0_3) := (qb BK137.out 3).trans rfl
               have hfz35_0 := qa BK137.out 0
               have hfz35_1 := qa BK137.out 1
               have hfz35_2 := qa BK137.out 2
               have hfz35_3 := qa BK137.out 3
               go_wp2_with (first | (go_at_call 49; (with_reducible refine (mimesisref23_exit.calls k4 _ _ l0_0 _ _ l0_1 _ _ l0_2 a0_3 a0_3 (l0_1.length : Int) true _ ?side1 ?side2 ?side3 ?side4 ?side5 ?side6 A33.out).mono ?_); (case side1 => repeat (first | exact (Kd.qn HR0_0.out HB.out) | (with_reducible refine Kd.qu ?_ _) | (with_reducible refine Kd.qv ?_ _) | (with_reducible refine Kd.qx ?_))); (case side2 => exact HC0_0.out); (case side3 => repeat (first | exact (Kd.qn HR0_1.out HB.out) | (with_reducible refine Kd.qu ?_ _) | (with_reducible refine Kd.qv ?_ _) | (with_reducible refine Kd.qx ?_))); (case side4 => exact HC0_1.out); (case side5 => repeat (first | exact (Kd.qn HR0_2.out HB.out) | (with_reducible refine Kd.qu ?_ _) | (with_reducible refine Kd.qv ?_ _) | (with_reducible refine Kd.qx ?_))); (case side6 => exact HC0_2.out); rintro e w36 ⟨rfl, hb⟩; have n0_ := Aside0.mk (qo (g := gb137) (o := .cells #[.slice A0_0 l0_0.length c0_0, .slice A0_1 l0_1.length c0_1, .slice A0_2 l0_2.length c0_2, .int .i64 a0_3] 26 (0, 0)) (by (with_reducible repeat (first | refine qg ?_ _ | refine qi ?_ | refine qf ?_ _)); exact BK137.out) hb); have n1_ := Aside0.mk (qq (by repeat (first | (with_reducible first | exact HB.out | apply qe | apply qc | apply qd | refine qh ?_ GE137.out) | exact HB.out)) hb); clear BK137; clear HB; have BK137 := n0_; have HB := n1_; clear n0_ n1_; (try clear hb); (try clear hb2); (try clear hk); (try clear hi)))
               go_ret
               exact ⟨by first | rfl | (simp [ql, qm] <;> rfl) | (simp [*, ql, qm] <;> rfl), by repeat (first | (with_reducible first | exact HB.out | apply qe | apply qc | apply qd | refine qh ?_ GE137.out) | exact HB.out)⟩
              ·replace c34 := Bool.eq_false_iff.mpr c34
               subst c34
               have H1 : (some 1) = some r := by rw [if_neg (show ¬ (false = true) by decide)] at H; exact H
               clear H
               have H := H1
               clear H1
               obtain rfl := Option.some.inj H
               have hcz37_0 : wr.cell? ⟨gb137, 0, none⟩ = some (.slice A0_0 l0_0.length c0_0) := (qb BK137.out 0).trans rfl
               have hcz37_1 : wr.cell? ⟨gb137, 1, none⟩ = some (.slice A0_1 l0_1.length c0_1) := (qb BK137.out 1).trans rfl
               have hcz37_2 : wr.cell? ⟨gb137, 2, none⟩ = some (.slice A0_2 l0_2.length c0_2) := (qb BK137.out 2).trans rfl
               have hcz37_3 : wr.cell? ⟨gb137, 3, none⟩ = some (.int .i64 a0_3) := (qb BK137.out 3).trans rfl
               have hfz37_0 := qa BK137.out 0
               have hfz37_1 := qa BK137.out 1
               have hfz37_2 := qa BK137.out 2
               have hfz37_3 := qa BK137.out 3
               go_wp2_with (first | (go_at_call 49; (with_reducible refine (mimesisref23_exit.calls k4 _ _ l0_0 _ _ l0_1 _ _ l0_2 a0_3 a0_3 (l0_1.length : Int) false _ ?side1 ?side2 ?side3 ?side4 ?side5 ?side6 A33.out).mono ?_); (case side1 => repeat (first | exact (Kd.qn HR0_0.out HB.out) | (with_reducible refine Kd.qu ?_ _) | (with_reducible refine Kd.qv ?_ _) | (with_reducible refine Kd.qx ?_))); (case side2 => exact HC0_0.out); (case side3 => repeat (first | exact (Kd.qn HR0_1.out HB.out) | (with_reducible refine Kd.qu ?_ _) | (with_reducible refine Kd.qv ?_ _) | (with_reducible refine Kd.qx ?_))); (case side4 => exact HC0_1.out); (case side5 => repeat (first | exact (Kd.qn HR0_2.out HB.out) | (with_reducible refine Kd.qu ?_ _) | (with_reducible refine Kd.qv ?_ _) | (with_reducible refine Kd.qx ?_))); (case side6 => exact HC0_2.out); rintro e w38 ⟨rfl, hb⟩; have n0_ := Aside0.mk (qo (g := gb137) (o := .cells #[.slice A0_0 l0_0.length c0_0, .slice A0_1 l0_1.length c0_1, .slice A0_2 l0_2.length c0_2, .int .i64 a0_3] 26 (0, 0)) (by (with_reducible repeat (first | refine qg ?_ _ | refine qi ?_ | refine qf ?_ _)); exact BK137.out) hb); have n1_ := Aside0.mk (qq (by repeat (first | (with_reducible first | exact HB.out | apply qe | apply qc | apply qd | refine qh ?_ GE137.out) | exact HB.out)) hb); clear BK137; clear HB; have BK137 := n0_; have HB := n1_; clear n0_ n1_; (try clear hb); (try clear hb2); (try clear hk); (try clear hi)))
               go_ret
               exact ⟨by first | rfl | (simp [ql, qm] <;> rfl) | (simp [*, ql, qm] <;> rfl), by repeat (first | (with_reducible first | exact HB.out | apply qe | apply qc | apply qd | refine qh ?_ GE137.out) | exact HB.out)⟩

-- NOT PRINTED: function 20 (mimesislaw23_Own)

-- NOT PRINTED: function 21 (mimesislaw23_Back)

end Go.Proofs.Ythjgakoofmmloaa.PNumberDoes
