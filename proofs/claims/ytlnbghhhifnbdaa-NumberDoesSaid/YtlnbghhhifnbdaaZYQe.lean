/- Proved: contracts of single functions of the reference. Conditions: those that each theorem names. -/
import Derived.Test.YtlnbghhhifnbdaaZPNumberDoesx0
namespace Go.Proofs.Ytlnbghhhifnbdaa.PNumberDoes
open Go.RowKit Go.Proofs.YtlnbghhhifnbdaaW.PrintWords Go.Proofs.YtlnbghhhifnbdaaW.PrintLast Go.Proofs.YtlnbghhhifnbdaaW.PrintMore
attribute [local go_sem] max2_int min2_int max_two min_two qQ qR max_four min_four
set_option linter.unusedVariables false
set_option linter.unusedSimpArgs false

mutual
def mimesisref28_Exits.l0 : Nat → List (S64) → List Int → List (S64) → Int → Option ((List (S64)))
 | 0, _, _, _, _ => none
 | k + 1, x0, x1, x5, x6 => if x6 < (x0.length : Int) then (if 0 ≤ x6 then (if ((qj x0 x6).f2) = (-1) then (mimesisref28_Exits.j1 k x0 x1 x5 x6 ((qj x0 x6).f0) ((qj x0 x6).f1) ((qj x0 x6).f2) ((qj x0 x6).f3)) else (if 0 ≤ ((qj x0 x6).f2) then (if ((qj x0 x6).f2) < (x1.length : Int) then (mimesisref28_Exits.j1 k x0 x1 x5 x6 ((qj x0 x6).f0) ((qj x0 x6).f1) (rd x1 ((qj x0 x6).f2)) ((qj x0 x6).f3)) else (none)) else (none))) else (none)) else (some x5)
def mimesisref28_Exits.j1 : Nat → List (S64) → List Int → List (S64) → Int → Int → Int → Int → Int → Option ((List (S64)))
 | 0, _, _, _, _, _, _, _, _ => none
 | k + 1, x0, x1, x5, x6, x234000, x234001, x234002, x234003 => mimesisref28_Exits.l1 k x0 x1 x5 x6 0 x234000 x234001 x234002 x234003 ([] : List (S84))
def mimesisref28_Exits.l1 : Nat → List (S64) → List Int → List (S64) → Int → Int → Int → Int → Int → Int → List (S84) → Option ((List (S64)))
 | 0, _, _, _, _, _, _, _, _, _, _ => none
 | k + 1, x0, x1, x5, x6, x8, x234000, x234001, x234002, x234003, x234004 => if 0 ≤ x6 then (if x6 < (x0.length : Int) then (if x8 < (((qj x0 x6).f4).length : Int) then (if 0 ≤ x8 then (if 0 ≤ ((qD ((qj x0 x6).f4) x8).f1) then (if ((qD ((qj x0 x6).f4) x8).f1) < (x1.length : Int) then (if x234004.length < 8796093022208 then (mimesisref28_Exits.l1 k x0 x1 x5 x6 (wrap64 (x8 + 1)) x234000 x234001 x234002 x234003 (x234004 ++ [(⟨(qD ((qj x0 x6).f4) x8).f0, rd x1 ((qD ((qj x0 x6).f4) x8).f1)⟩ : S84)])) else (none)) else (none)) else (none)) else (none)) else (if x5.length < 2513169434916 then (mimesisref28_Exits.l0 k x0 x1 (x5 ++ [(⟨x234000, x234001, x234002, x234003, x234004⟩ : S64)]) (wrap64 (x6 + 1))) else (none))) else (none)) else (none)
end
def mimesisref28_Exits.f (k : Nat) (l0 : List (S64)) (l1 : List Int) : Option ((List (S64))) := mimesisref28_Exits.l0 k l0 l1 (([] : List (S64))) 0
def mimesisref28_Exits.T5 : Bool × List (List Nat × List Nat) := (true, [([], []), ([], []), ([0, 1], [0, 1]), ([2], [2]), ([3], [3]), ([], []), ([], []), ([5, 6], [5, 6]), ([7], [7]), ([8], [8]), ([], []), ([], []), ([10, 11], [10, 11]), ([12], [12]), ([13], [13]), ([], []), ([], []), ([15, 16], [15, 16]), ([17], [17]), ([18], [18]), ([4, 9, 14, 19], [4, 9, 14, 19]), ([], []), ([21, 20, 0, 1, 2, 3, 4, 5, 6, 7, 8, 9, 10, 11, 12, 13, 14, 15, 16, 17, 18, 19, 20, 21], [20, 21])])
def mimesisref28_Exits.B5 : List Nat := [0, 0, 3, 7, 15, 0, 0, 96, 224, 480, 0, 0, 3072, 7168, 15360, 0, 0, 98304, 229376, 491520, 1048575, 0, 4194303]
theorem mimesisref28_Exits.tab5 : rtab .any (opsOf Try.f64 5) = mimesisref28_Exits.T5 := by kernel_rfl
theorem mimesisref28_Exits.bits5 : waitsOk mimesisref28_Exits.T5.2 mimesisref28_Exits.B5 = true := by kernel_rfl
def mimesisref28_Exits.T11 : Bool × List (List Nat × List Nat) := (true, [([], []), ([0], [0]), ([], []), ([], []), ([2, 3], [2, 3]), ([4], [4]), ([5], [5]), ([], []), ([6, 7], [6, 7]), ([8], [8]), ([9], [9]), ([], []), ([], []), ([], []), ([12, 13], [12, 13]), ([14], [14]), ([15], [15]), ([], []), ([16, 17], [16, 17]), ([18], [18]), ([19], [19]), ([11, 20], [11, 20]), ([21], [21]), ([10, 22], [10, 22]), ([23], [23]), ([1, 24], [1, 24]), ([0, 1, 2, 3, 4, 5, 6, 7, 8, 9, 10, 11, 12, 13, 14, 15, 16, 17, 18, 19, 20, 21, 22, 23, 24, 25], []), ([26, 25, 25, 0, 1, 2, 3, 4, 5, 6, 7, 8, 9, 10, 11, 12, 13, 14, 15, 16, 17, 18, 19, 20, 21, 22, 23, 24, 25], [25, 26])])
def mimesisref28_Exits.B11 : List Nat := [0, 1, 0, 0, 12, 28, 60, 0, 252, 508, 1020, 0, 0, 0, 12288, 28672, 61440, 0, 258048, 520192, 1044480, 2095104, 4192256, 8388604, 16777212, 33554431, 67108863, 134217727]
theorem mimesisref28_Exits.tab11 : rtab .any (opsOf Try.f64 11) = mimesisref28_Exits.T11 := by kernel_rfl
theorem mimesisref28_Exits.bits11 : waitsOk mimesisref28_Exits.T11.2 mimesisref28_Exits.B11 = true := by kernel_rfl
set_option maxHeartbeats 8000000 in
set_option maxRecDepth 100000 in
theorem mimesisref28_Exits.calls (k : Nat) (A0 : Option Addr) (c0 : Nat) (l0 : List (S64)) (A1 : Option Addr) (c1 : Nat) (l1 : List Int) (r : List (S64)) (w : World) (hr0 : Kd.C k64 w A0 l0.length l0) (hc0 : l0.length ≤ c0) (hr1 : Kd.C (Kd.int .i64) w A1 l1.length l1) (hc1 : l1.length ≤ c1) (h : mimesisref28_Exits.f k l0 l1 = some r) :
  Calls Try.prog 64 #[.slice A0 l0.length c0, .slice A1 l1.length c1] w fun e w' => ∃ v0_ : Value, e = .returned (v0_) ∧ Kd.S k64 64 w' w.heap.size (fun _ => True) v0_ r ∧ Below w.heap.size w w' := by
 have hu64 := Try.underlying64
 have hu84 := Try.underlying84
 have HR0 := Aside0.mk hr0
 have HC0 := Aside0.mk hc0
 clear hr0 hc0
 have HR1 := Aside0.mk hr1
 have HC1 := Aside0.mk hc1
 clear hr1 hc1
 have HB := Aside0.mk (Below.refl w.heap.size w)
 have H : (mimesisref28_Exits.l0 k l0 l1 (([] : List (S64))) 0) = some r := h
 clear h
 obtain ⟨y226, hy226⟩ : ∃ y_ : List (S64), y_ = (([] : List (S64))) := ⟨_, rfl⟩
 replace H : (mimesisref28_Exits.l0 k l0 l1 y226 0) = some r := by first | (rw [hy226]; with_reducible exact H) | (have H2_ := (Option.bind_some _ _).symm.trans H; rw [hy226]; with_reducible exact H2_) | (have H2_ := (Option.bind_some _ _).symm.trans H; with_reducible exact H2_) | with_reducible exact H | (rw [hy226]; exact H) | exact H
 have Ny226 := Aside0.mk hy226
 clear hy226
 have H' := Aside0.mk H
 clear H
 go_enter Try.func64, Try.ntmps64
 go_wp2_with (first | ((with_reducible refine qC (N := 9) rfl ?_); refine Kd.S_lit k64 _ 64 ?hg (N := 9) ?hd (xs := ([] : List (S64))) (inner := []) (ok := fun _ => True) (okp := fun _ => True) ?hr ?hp (fun _ hk => hk) trivial (Below.refl _ _) (Nat.le_refl _) (by simp) ?_; (case hd => rfl); (case hg => rfl); (case hr => first | (go_simp; done) | (go_simp; rfl)); (case hp => exact (Reps.none _ _)); intro v227 w3 ho4 hb hg_ hnew_; clear hg_ hnew_; (first | rw [← Ny226.out] at ho4 | (simp only [Int.reduceToNat] at ho4; rw [← Ny226.out] at ho4)); have n0_ := Aside0.mk (Kd.S_lower ho4 (qt (by repeat (first | (with_reducible first | exact HB.out | apply qf | apply qc | apply qe) | exact HB.out)))); have n1_ := Aside0.mk (qq (by repeat (first | (with_reducible first | exact HB.out | apply qf | apply qc | apply qe) | exact HB.out)) hb); clear HB; have HO228 := n0_; have HB := n1_; clear n0_ n1_; clear hb ho4))
 go_loopg [5, 6] k (fun kq v5 v6 w' => ∃ (x5_1 : List (S64)) (x6_1 : Int), v6 = .int .i64 x6_1 ∧ Aside0 (mimesisref28_Exits.l0 kq l0 l1 x5_1 x6_1 = some r) ∧ Aside0 (kq ≤ k) ∧ Aside0 (Kd.S k64 64 w' w.heap.size (fun _ => True) v5 x5_1) ∧ Aside0 (Below w.heap.size w w'))
 case atStart => exact ⟨(y226), (0), (by first | rfl | (simp; done) | (simp [*]; done)), H', ⟨Nat.le_refl _⟩, ⟨by (with_reducible repeat (first | apply Kd.S_alloc | apply Kd.S_drewN | apply Kd.S_drew)); exact HO228.out⟩, ⟨by repeat (first | (with_reducible first | exact HB.out | apply qf | apply qc | apply qe) | exact HB.out)⟩⟩
 case round =>
  clear H'
  try clear c1
  try clear p2
  obtain ⟨x5_1, x6_1, rfl, HA, HK1, HO_5, HB⟩ := hrel
  cases gk with
  | zero => exact absurd HA.out (by simp [mimesisref28_Exits.l0])
  | succ k1 =>
   have H := HA.out
   clear HA
   simp only [mimesisref28_Exits.l0] at H
   by_cases c5 : x6_1 < (l0.length : Int)
   ·rw [if_pos c5] at H
    have c5b0 : decide (x6_1 < (l0.length : Int)) = true := decide_eq_true c5
    clear c5
    by_cases c6 : 0 ≤ x6_1
    ·rw [if_pos c6] at H
     have c6b0 : decide (0 ≤ x6_1) = true := decide_eq_true c6
     clear c6
     have HC7 := Aside0.mk H
     clear H
     try go_wp2
     have n0_ := Aside0.mk (Kd.S_drew HO_5.out)
     have n1_ := Aside0.mk (qe HB.out)
     clear HO_5
     clear HB
     have HO_5 := n0_
     have HB := n1_
     clear n0_ n1_
     have p229 : 0 ≤ (x6_1 : Int) := of_decide_eq_true (by assumption)
     have q229 : x6_1 < (l0.length : Int) := of_decide_eq_true (by assumption)
     obtain ⟨ad229, A229_4, c229_4, e229, hx229_0, hx229_1, hx229_2, hx229_3, hx229_4, hl229_4, hi229_4⟩ := at_T64 HR0.out x6_1 p229 q229
     have hw229_4 := hx229_4
     have hw229_3 := hx229_3
     have hw229_2 := hx229_2
     have hw229_1 := hx229_1
     have hw229_0 := hx229_0
     cases e229
     replace hx229_0 := (HB.out.cell (blc9 w _ hx229_0)).trans hx229_0
     replace hx229_1 := (HB.out.cell (blc9 w _ hx229_1)).trans hx229_1
     replace hx229_2 := (HB.out.cell (blc9 w _ hx229_2)).trans hx229_2
     replace hx229_3 := (HB.out.cell (blc9 w _ hx229_3)).trans hx229_3
     replace hx229_4 := (HB.out.cell (blc9 w _ hx229_4)).trans hx229_4
     have HR229_4 := Aside0.mk hi229_4
     have HC229_4 := Aside0.mk hl229_4
     clear hi229_4 hl229_4
     replace p229 := eq_true p229
     replace q229 := eq_true q229
     have p230 : 0 ≤ (x6_1 : Int) := of_decide_eq_true (by assumption)
     have q230 : x6_1 < (l0.length : Int) := of_decide_eq_true (by assumption)
     obtain ⟨ad230, A230_4, c230_4, e230, hx230_0, hx230_1, hx230_2, hx230_3, hx230_4, hl230_4, hi230_4⟩ := at_T64 HR0.out x6_1 p230 q230
     have hw230_4 := hx230_4
     have hw230_3 := hx230_3
     have hw230_2 := hx230_2
     have hw230_1 := hx230_1
     have hw230_0 := hx230_0
     obtain rfl : ad229 = ad230 := (by injection e230)
     replace hx230_0 := (HB.out.cell (blc9 w _ hx230_0)).trans hx230_0
     replace hx230_1 := (HB.out.cell (blc9 w _ hx230_1)).trans hx230_1
     replace hx230_2 := (HB.out.cell (blc9 w _ hx230_2)).trans hx230_2
     replace hx230_3 := (HB.out.cell (blc9 w _ hx230_3)).trans hx230_3
     replace hx230_4 := (HB.out.cell (blc9 w _ hx230_4)).trans hx230_4
     have HR230_4 := Aside0.mk hi230_4
     have HC230_4 := Aside0.mk hl230_4
     clear hi230_4 hl230_4
     replace p230 := eq_true p230
     replace q230 := eq_true q230
     have ea_ := Option.some.inj (hx229_4.symm.trans hx230_4)
     injection ea_ with ea_ en_ ec_
     subst ea_
     subst ec_
     clear en_
     have p231 : 0 ≤ (x6_1 : Int) := of_decide_eq_true (by assumption)
     have q231 : x6_1 < (l0.length : Int) := of_decide_eq_true (by assumption)
     obtain ⟨ad231, A231_4, c231_4, e231, hx231_0, hx231_1, hx231_2, hx231_3, hx231_4, hl231_4, hi231_4⟩ := at_T64 HR0.out x6_1 p231 q231
     have hw231_4 := hx231_4
     have hw231_3 := hx231_3
     have hw231_2 := hx231_2
     have hw231_1 := hx231_1
     have hw231_0 := hx231_0
     obtain rfl : ad229 = ad231 := (by injection e231)
     replace hx231_0 := (HB.out.cell (blc9 w _ hx231_0)).trans hx231_0
     replace hx231_1 := (HB.out.cell (blc9 w _ hx231_1)).trans hx231_1
     replace hx231_2 := (HB.out.cell (blc9 w _ hx231_2)).trans hx231_2
     replace hx231_3 := (HB.out.cell (blc9 w _ hx231_3)).trans hx231_3
     replace hx231_4 := (HB.out.cell (blc9 w _ hx231_4)).trans hx231_4
     have HR231_4 := Aside0.mk hi231_4
     have HC231_4 := Aside0.mk hl231_4
     clear hi231_4 hl231_4
     replace p231 := eq_true p231
     replace q231 := eq_true q231
     have ea_ := Option.some.inj (hx229_4.symm.trans hx231_4)
     injection ea_ with ea_ en_ ec_
     subst ea_
     subst ec_
     clear en_
     have p232 : 0 ≤ (x6_1 : Int) := of_decide_eq_true (by assumption)
     have q232 : x6_1 < (l0.length : Int) := of_decide_eq_true (by assumption)
     obtain ⟨ad232, A232_4, c232_4, e232, hx232_0, hx232_1, hx232_2, hx232_3, hx232_4, hl232_4, hi232_4⟩ := at_T64 HR0.out x6_1 p232 q232
     have hw232_4 := hx232_4
     have hw232_3 := hx232_3
     have hw232_2 := hx232_2
     have hw232_1 := hx232_1
     have hw232_0 := hx232_0
     obtain rfl : ad229 = ad232 := (by injection e232)
     replace hx232_0 := (HB.out.cell (blc9 w _ hx232_0)).trans hx232_0
     replace hx232_1 := (HB.out.cell (blc9 w _ hx232_1)).trans hx232_1
     replace hx232_2 := (HB.out.cell (blc9 w _ hx232_2)).trans hx232_2
     replace hx232_3 := (HB.out.cell (blc9 w _ hx232_3)).trans hx232_3
     replace hx232_4 := (HB.out.cell (blc9 w _ hx232_4)).trans hx232_4
     have HR232_4 := Aside0.mk hi232_4
     have HC232_4 := Aside0.mk hl232_4
     clear hi232_4 hl232_4
     replace p232 := eq_true p232
     replace q232 := eq_true q232
     have ea_ := Option.some.inj (hx229_4.symm.trans hx232_4)
     injection ea_ with ea_ en_ ec_
     subst ea_
     subst ec_
     clear en_
     refine start_ (n := 23) (S := fun w' => w'.cell? (ad229.add ((x6_1).toNat * 5)) = some (.int .i64 ((qj l0 x6_1).f0)) ∧ w'.cell? ⟨(ad229.add ((x6_1).toNat * 5)).block, (ad229.add ((x6_1).toNat * 5)).off + 1, none⟩ = some (.int .u32 ((qj l0 x6_1).f1)) ∧ w'.cell? ⟨(ad229.add ((x6_1).toNat * 5)).block, (ad229.add ((x6_1).toNat * 5)).off + 2, none⟩ = some (.int .i64 ((qj l0 x6_1).f2)) ∧ w'.cell? ⟨(ad229.add ((x6_1).toNat * 5)).block, (ad229.add ((x6_1).toNat * 5)).off + 3, none⟩ = some (.int .i64 ((qj l0 x6_1).f3)) ∧ w'.cell? ⟨(ad229.add ((x6_1).toNat * 5)).block, (ad229.add ((x6_1).toNat * 5)).off + 4, none⟩ = some (.slice A229_4 ((qj l0 x6_1).f4).length c229_4) ∧ w'.cell? (ad229.add ((x6_1).toNat * 5)) = some (.int .i64 ((qj l0 x6_1).f0)) ∧ w'.cell? ⟨(ad229.add ((x6_1).toNat * 5)).block, (ad229.add ((x6_1).toNat * 5)).off + 1, none⟩ = some (.int .u32 ((qj l0 x6_1).f1)) ∧ w'.cell? ⟨(ad229.add ((x6_1).toNat * 5)).block, (ad229.add ((x6_1).toNat * 5)).off + 2, none⟩ = some (.int .i64 ((qj l0 x6_1).f2)) ∧ w'.cell? ⟨(ad229.add ((x6_1).toNat * 5)).block, (ad229.add ((x6_1).toNat * 5)).off + 3, none⟩ = some (.int .i64 ((qj l0 x6_1).f3)) ∧ w'.cell? ⟨(ad229.add ((x6_1).toNat * 5)).block, (ad229.add ((x6_1).toNat * 5)).off + 4, none⟩ = some (.slice A229_4 ((qj l0 x6_1).f4).length c229_4) ∧ w'.cell? (ad229.add ((x6_1).toNat * 5)) = some (.int .i64 ((qj l0 x6_1).f0)) ∧ w'.cell? ⟨(ad229.add ((x6_1).toNat * 5)).block, (ad229.add ((x6_1).toNat * 5)).off + 1, none⟩ = some (.int .u32 ((qj l0 x6_1).f1)) ∧ w'.cell? ⟨(ad229.add ((x6_1).toNat * 5)).block, (ad229.add ((x6_1).toNat * 5)).off + 2, none⟩ = some (.int .i64 ((qj l0 x6_1).f2)) ∧ w'.cell? ⟨(ad229.add ((x6_1).toNat * 5)).block, (ad229.add ((x6_1).toNat * 5)).off + 3, none⟩ = some (.int .i64 ((qj l0 x6_1).f3)) ∧ w'.cell? ⟨(ad229.add ((x6_1).toNat * 5)).block, (ad229.add ((x6_1).toNat * 5)).off + 4, none⟩ = some (.slice A229_4 ((qj l0 x6_1).f4).length c229_4) ∧ w'.cell? (ad229.add ((x6_1).toNat * 5)) = some (.int .i64 ((qj l0 x6_1).f0)) ∧ w'.cell? ⟨(ad229.add ((x6_1).toNat * 5)).block, (ad229.add ((x6_1).toNat * 5)).off + 1, none⟩ = some (.int .u32 ((qj l0 x6_1).f1)) ∧ w'.cell? ⟨(ad229.add ((x6_1).toNat * 5)).block, (ad229.add ((x6_1).toNat * 5)).off + 2, none⟩ = some (.int .i64 ((qj l0 x6_1).f2)) ∧ w'.cell? ⟨(ad229.add ((x6_1).toNat * 5)).block, (ad229.add ((x6_1).toNat * 5)).off + 3, none⟩ = some (.int .i64 ((qj l0 x6_1).f3)) ∧ w'.cell? ⟨(ad229.add ((x6_1).toNat * 5)).block, (ad229.add ((x6_1).toNat * 5)).off + 4, none⟩ = some (.slice A229_4 ((qj l0 x6_1).f4).length c229_4)) (ds := []) #[false, false, false, false, false, false, false, false, false, false, false, false, false, false, false, false, false, false, false, false, false, false, false] (by kernel_rfl) rfl rfl ⟨((HB.out.cell (blc9 w _ hw229_0)).trans hw229_0), ((HB.out.cell (blc9 w _ hw229_1)).trans hw229_1), ((HB.out.cell (blc9 w _ hw229_2)).trans hw229_2), ((HB.out.cell (blc9 w _ hw229_3)).trans hw229_3), ((HB.out.cell (blc9 w _ hw229_4)).trans hw229_4), ((HB.out.cell (blc9 w _ hw230_0)).trans hw230_0), ((HB.out.cell (blc9 w _ hw230_1)).trans hw230_1), ((HB.out.cell (blc9 w _ hw230_2)).trans hw230_2), ((HB.out.cell (blc9 w _ hw230_3)).trans hw230_3), ((HB.out.cell (blc9 w _ hw230_4)).trans hw230_4), ((HB.out.cell (blc9 w _ hw231_0)).trans hw231_0), ((HB.out.cell (blc9 w _ hw231_1)).trans hw231_1), ((HB.out.cell (blc9 w _ hw231_2)).trans hw231_2), ((HB.out.cell (blc9 w _ hw231_3)).trans hw231_3), ((HB.out.cell (blc9 w _ hw231_4)).trans hw231_4), ((HB.out.cell (blc9 w _ hw232_0)).trans hw232_0), ((HB.out.cell (blc9 w _ hw232_1)).trans hw232_1), ((HB.out.cell (blc9 w _ hw232_2)).trans hw232_2), ((HB.out.cell (blc9 w _ hw232_3)).trans hw232_3), ((HB.out.cell (blc9 w _ hw232_4)).trans hw232_4)⟩ (fun hHeld => ?_); refine with_tabW mimesisref28_Exits.tab5 mimesisref28_Exits.bits5 (fun HT_ HW_ => ?_)
     generalize wr.drew = w8 at HO_5 HB HR229_4 HR230_4 HR231_4 HR232_4 hx229_0 hx229_1 hx229_2 hx229_3 hx229_4 hx230_0 hx230_1 hx230_2 hx230_3 hx230_4 hx231_0 hx231_1 hx231_2 hx231_3 hx231_4 hx232_0 hx232_1 hx232_2 hx232_3 hx232_4 hHeld ⊢
     refine pure_ (i := 0) (N := some 16) (v := ?_) (a' := ?_) #[true, false, false, false, false, false, false, false, false, false, false, false, false, false, false, false, false, false, false, false, false, false, false] rfl rfl (qB HT_.out (by kernel_rfl)) (fun _ _ _ h => h) (Or.inl ⟨by rfl, ?_⟩) ?_ ?_
     rotate_left
     ·intro w'
      go_simp
      with_reducible rfl
     rotate_left
     ·simp only [Act.put, List.setIfInBounds_toArray, List.set_cons_zero, List.set_cons_succ, i64_w, i32_w]
      rfl
     refine pure_ (i := 1) (N := some 17) (v := ?_) (a' := ?_) #[true, true, false, false, false, false, false, false, false, false, false, false, false, false, false, false, false, false, false, false, false, false, false] rfl rfl (qB HT_.out (by kernel_rfl)) (fun _ _ _ h => h) (Or.inl ⟨by rfl, ?_⟩) ?_ ?_
     rotate_left
     ·intro w'
      go_simp
      with_reducible rfl
     rotate_left
     ·simp only [Act.put, List.setIfInBounds_toArray, List.set_cons_zero, List.set_cons_succ, i64_w, i32_w]
      rfl
     refine pure_ (i := 2) (N := some 18) (v := ?_) (a' := ?_) #[true, true, true, false, false, false, false, false, false, false, false, false, false, false, false, false, false, false, false, false, false, false, false] rfl rfl (qB HT_.out (by kernel_rfl)) (fun _ _ _ h => h) (Or.inl ⟨by rfl, ?_⟩) ?_ ?_
     rotate_left
     ·intro w'
      go_simp
      with_reducible rfl
     rotate_left
     ·simp only [Act.put, List.setIfInBounds_toArray, List.set_cons_zero, List.set_cons_succ, i64_w, i32_w]
      rfl
     refine pure_ (i := 3) (N := some 19) (v := ?_) (a' := ?_) #[true, true, true, true, false, false, false, false, false, false, false, false, false, false, false, false, false, false, false, false, false, false, false] rfl rfl (qB HT_.out (by kernel_rfl)) (fun _ _ _ h => h) (Or.inl ⟨by rfl, ?_⟩) ?_ ?_
     rotate_left
     ·intro w'
      go_simp
      with_reducible rfl
     rotate_left
     ·simp only [Act.put, List.setIfInBounds_toArray, List.set_cons_zero, List.set_cons_succ, i64_w, i32_w]
      rfl
     refine pure_ (i := 5) (N := some 21) (v := ?_) (a' := ?_) #[true, true, true, true, false, true, false, false, false, false, false, false, false, false, false, false, false, false, false, false, false, false, false] rfl rfl (qB HT_.out (by kernel_rfl)) (fun _ _ _ h => h) (Or.inl ⟨by rfl, ?_⟩) ?_ ?_
     rotate_left
     ·intro w'
      go_simp
      with_reducible rfl
     rotate_left
     ·simp only [Act.put, List.setIfInBounds_toArray, List.set_cons_zero, List.set_cons_succ, i64_w, i32_w]
      rfl
     refine pure_ (i := 6) (N := some 22) (v := ?_) (a' := ?_) #[true, true, true, true, false, true, true, false, false, false, false, false, false, false, false, false, false, false, false, false, false, false, false] rfl rfl (qB HT_.out (by kernel_rfl)) (fun _ _ _ h => h) (Or.inl ⟨by rfl, ?_⟩) ?_ ?_
     rotate_left
     ·intro w'
      go_simp
      with_reducible rfl
     rotate_left
     ·simp only [Act.put, List.setIfInBounds_toArray, List.set_cons_zero, List.set_cons_succ, i64_w, i32_w]
      rfl
     refine pure_ (i := 7) (N := some 23) (v := ?_) (a' := ?_) #[true, true, true, true, false, true, true, true, false, false, false, false, false, false, false, false, false, false, false, false, false, false, false] rfl rfl (qB HT_.out (by kernel_rfl)) (fun _ _ _ h => h) (Or.inl ⟨by rfl, ?_⟩) ?_ ?_
     rotate_left
     ·intro w'
      go_simp
      with_reducible rfl
     rotate_left
     ·simp only [Act.put, List.setIfInBounds_toArray, List.set_cons_zero, List.set_cons_succ, i64_w, i32_w]
      rfl
     refine pure_ (i := 8) (N := some 24) (v := ?_) (a' := ?_) #[true, true, true, true, false, true, true, true, true, false, false, false, false, false, false, false, false, false, false, false, false, false, false] rfl rfl (qB HT_.out (by kernel_rfl)) (fun _ _ _ h => h) (Or.inl ⟨by rfl, ?_⟩) ?_ ?_
     rotate_left
     ·intro w'
      go_simp
      with_reducible rfl
     rotate_left
     ·simp only [Act.put, List.setIfInBounds_toArray, List.set_cons_zero, List.set_cons_succ, i64_w, i32_w]
      rfl
     refine pure_ (i := 10) (N := some 26) (v := ?_) (a' := ?_) #[true, true, true, true, false, true, true, true, true, false, true, false, false, false, false, false, false, false, false, false, false, false, false] rfl rfl (qB HT_.out (by kernel_rfl)) (fun _ _ _ h => h) (Or.inl ⟨by rfl, ?_⟩) ?_ ?_
     rotate_left
     ·intro w'
      go_simp
      with_reducible rfl
     rotate_left
     ·simp only [Act.put, List.setIfInBounds_toArray, List.set_cons_zero, List.set_cons_succ, i64_w, i32_w]
      rfl
     refine pure_ (i := 11) (N := some 27) (v := ?_) (a' := ?_) #[true, true, true, true, false, true, true, true, true, false, true, true, false, false, false, false, false, false, false, false, false, false, false] rfl rfl (qB HT_.out (by kernel_rfl)) (fun _ _ _ h => h) (Or.inl ⟨by rfl, ?_⟩) ?_ ?_
     rotate_left
     ·intro w'
      go_simp
      with_reducible rfl
     rotate_left
     ·simp only [Act.put, List.setIfInBounds_toArray, List.set_cons_zero, List.set_cons_succ, i64_w, i32_w]
      rfl
     refine pure_ (i := 12) (N := some 28) (v := ?_) (a' := ?_) #[true, true, true, true, false, true, true, true, true, false, true, true, true, false, false, false, false, false, false, false, false, false, false] rfl rfl (qB HT_.out (by kernel_rfl)) (fun _ _ _ h => h) (Or.inl ⟨by rfl, ?_⟩) ?_ ?_
     rotate_left
     ·intro w'
      go_simp
      with_reducible rfl
     rotate_left
     ·simp only [Act.put, List.setIfInBounds_toArray, List.set_cons_zero, List.set_cons_succ, i64_w, i32_w]
      rfl
     refine pure_ (i := 13) (N := some 29) (v := ?_) (a' := ?_) #[true, true, true, true, false, true, true, true, true, false, true, true, true, true, false, false, false, false, false, false, false, false, false] rfl rfl (qB HT_.out (by kernel_rfl)) (fun _ _ _ h => h) (Or.inl ⟨by rfl, ?_⟩) ?_ ?_
     rotate_left
     ·intro w'
      go_simp
      with_reducible rfl
     rotate_left
     ·simp only [Act.put, List.setIfInBounds_toArray, List.set_cons_zero, List.set_cons_succ, i64_w, i32_w]
      rfl
     refine pure_ (i := 15) (N := some 31) (v := ?_) (a' := ?_) #[true, true, true, true, false, true, true, true, true, false, true, true, true, true, false, true, false, false, false, false, false, false, false] rfl rfl (qB HT_.out (by kernel_rfl)) (fun _ _ _ h => h) (Or.inl ⟨by rfl, ?_⟩) ?_ ?_
     rotate_left
     ·intro w'
      go_simp
      with_reducible rfl
     rotate_left
     ·simp only [Act.put, List.setIfInBounds_toArray, List.set_cons_zero, List.set_cons_succ, i64_w, i32_w]
      rfl
     refine pure_ (i := 16) (N := some 32) (v := ?_) (a' := ?_) #[true, true, true, true, false, true, true, true, true, false, true, true, true, true, false, true, true, false, false, false, false, false, false] rfl rfl (qB HT_.out (by kernel_rfl)) (fun _ _ _ h => h) (Or.inl ⟨by rfl, ?_⟩) ?_ ?_
     rotate_left
     ·intro w'
      go_simp
      with_reducible rfl
     rotate_left
     ·simp only [Act.put, List.setIfInBounds_toArray, List.set_cons_zero, List.set_cons_succ, i64_w, i32_w]
      rfl
     refine pure_ (i := 17) (N := some 33) (v := ?_) (a' := ?_) #[true, true, true, true, false, true, true, true, true, false, true, true, true, true, false, true, true, true, false, false, false, false, false] rfl rfl (qB HT_.out (by kernel_rfl)) (fun _ _ _ h => h) (Or.inl ⟨by rfl, ?_⟩) ?_ ?_
     rotate_left
     ·intro w'
      go_simp
      with_reducible rfl
     rotate_left
     ·simp only [Act.put, List.setIfInBounds_toArray, List.set_cons_zero, List.set_cons_succ, i64_w, i32_w]
      rfl
     refine pure_ (i := 18) (N := some 34) (v := ?_) (a' := ?_) #[true, true, true, true, false, true, true, true, true, false, true, true, true, true, false, true, true, true, true, false, false, false, false] rfl rfl (qB HT_.out (by kernel_rfl)) (fun _ _ _ h => h) (Or.inl ⟨by rfl, ?_⟩) ?_ ?_
     rotate_left
     ·intro w'
      go_simp
      with_reducible rfl
     rotate_left
     ·simp only [Act.put, List.setIfInBounds_toArray, List.set_cons_zero, List.set_cons_succ, i64_w, i32_w]
      rfl
     refine take_ (i := 4) (N := some 20) (v := ?_) (a' := ?_) #[true, true, true, true, true, true, true, true, true, false, true, true, true, true, false, true, true, true, true, false, false, false, false] rfl rfl (qK HT_.out HW_.out (by kernel_rfl)) (fun _ _ _ h => h) (Or.inl ⟨by rfl, ?_⟩) hHeld ?_ ?_
     rotate_left
     ·rintro w' ⟨s0, s1, s2, s3, s4, s5, s6, s7, s8, s9, s10, s11, s12, s13, s14, s15, s16, s17, s18, s19⟩
      go_simp
      with_reducible rfl
     rotate_left
     ·simp only [Act.put, List.setIfInBounds_toArray, List.set_cons_zero, List.set_cons_succ, i64_w, i32_w]
      rfl
     refine take_ (i := 9) (N := some 25) (v := ?_) (a' := ?_) #[true, true, true, true, true, true, true, true, true, true, true, true, true, true, false, true, true, true, true, false, false, false, false] rfl rfl (qK HT_.out HW_.out (by kernel_rfl)) (fun _ _ _ h => h) (Or.inl ⟨by rfl, ?_⟩) hHeld ?_ ?_
     rotate_left
     ·rintro w' ⟨s0, s1, s2, s3, s4, s5, s6, s7, s8, s9, s10, s11, s12, s13, s14, s15, s16, s17, s18, s19⟩
      go_simp
      with_reducible rfl
     rotate_left
     ·simp only [Act.put, List.setIfInBounds_toArray, List.set_cons_zero, List.set_cons_succ, i64_w, i32_w]
      rfl
     refine take_ (i := 14) (N := some 30) (v := ?_) (a' := ?_) #[true, true, true, true, true, true, true, true, true, true, true, true, true, true, true, true, true, true, true, false, false, false, false] rfl rfl (qK HT_.out HW_.out (by kernel_rfl)) (fun _ _ _ h => h) (Or.inl ⟨by rfl, ?_⟩) hHeld ?_ ?_
     rotate_left
     ·rintro w' ⟨s0, s1, s2, s3, s4, s5, s6, s7, s8, s9, s10, s11, s12, s13, s14, s15, s16, s17, s18, s19⟩
      go_simp
      with_reducible rfl
     rotate_left
     ·simp only [Act.put, List.setIfInBounds_toArray, List.set_cons_zero, List.set_cons_succ, i64_w, i32_w]
      rfl
     refine take_ (i := 19) (N := some 35) (v := ?_) (a' := ?_) #[true, true, true, true, true, true, true, true, true, true, true, true, true, true, true, true, true, true, true, true, false, false, false] rfl rfl (qK HT_.out HW_.out (by kernel_rfl)) (fun _ _ _ h => h) (Or.inl ⟨by rfl, ?_⟩) hHeld ?_ ?_
     rotate_left
     ·rintro w' ⟨s0, s1, s2, s3, s4, s5, s6, s7, s8, s9, s10, s11, s12, s13, s14, s15, s16, s17, s18, s19⟩
      go_simp
      with_reducible rfl
     rotate_left
     ·simp only [Act.put, List.setIfInBounds_toArray, List.set_cons_zero, List.set_cons_succ, i64_w, i32_w]
      rfl
     refine pure_ (i := 20) (N := some 36) (v := ?_) (a' := ?_) #[true, true, true, true, true, true, true, true, true, true, true, true, true, true, true, true, true, true, true, true, true, false, false] rfl rfl (qB HT_.out (by kernel_rfl)) (fun _ _ _ h => h) (Or.inl ⟨by rfl, ?_⟩) ?_ ?_
     rotate_left
     ·intro w'
      go_simp
      with_reducible rfl
     rotate_left
     ·simp only [Act.put, List.setIfInBounds_toArray, List.set_cons_zero, List.set_cons_succ, i64_w, i32_w]
      rfl
     refine one_ (i := 21) (N := some 7) #[true, true, true, true, true, true, true, true, true, true, true, true, true, true, true, true, true, true, true, true, true, true, false] rfl rfl (one_of HT_.out (by kernel_rfl)) (by decide) (fun K hK => ?_)
     refine box_step ?hg (N := 7) ?hd (cs := #[.int .i64 0, .int .u32 0, .int .i64 0, .int .i64 0, .slice none 0 0]) (t := 64) ?hr ?_; (case hd => rfl); (case hg => rfl); (case hr => first | (go_simp; done) | (go_simp; rfl))
     intro gb233 hg w9 hbox hb
     have n0_ := Aside0.mk (Kd.S_below (Kd.S_elderB (by (with_reducible repeat (first | apply Kd.S_alloc | apply Kd.S_drewN | apply Kd.S_drew)); exact HO_5.out) gb233 (Nat.le_of_eq hg.symm)) hb)
     have n1_ := Aside0.mk (qq (by repeat (first | (with_reducible first | exact HB.out | apply qf | apply qc | apply qe) | exact HB.out)) hb)
     have n2_ := Aside0.mk (hbox)
     have n3_ := Aside0.mk ((by rw [hg]; exact (qt (by repeat (first | (with_reducible first | exact HB.out | apply qf | apply qc | apply qe) | exact HB.out))) : w.heap.size ≤ gb233))
     have n4_ := Aside0.mk ((by rw [hg]; exact (qt (by repeat (first | (with_reducible first | exact HB.out | apply qf | apply qc | apply qe) | exact HB.out))) : w.heap.size ≤ gb233))
     clear HO_5
     clear HB
     have HO_5 := n0_
     have HB := n1_
     have BK233 := n2_
     have GW233 := n3_
     have GE233 := n4_
     clear n0_ n1_ n2_ n3_ n4_
     clear hb hbox hg
     refine hK.out _ _ ⟨((HB.out.cell (blc9 w _ hw229_0)).trans hw229_0), ((HB.out.cell (blc9 w _ hw229_1)).trans hw229_1), ((HB.out.cell (blc9 w _ hw229_2)).trans hw229_2), ((HB.out.cell (blc9 w _ hw229_3)).trans hw229_3), ((HB.out.cell (blc9 w _ hw229_4)).trans hw229_4), ((HB.out.cell (blc9 w _ hw230_0)).trans hw230_0), ((HB.out.cell (blc9 w _ hw230_1)).trans hw230_1), ((HB.out.cell (blc9 w _ hw230_2)).trans hw230_2), ((HB.out.cell (blc9 w _ hw230_3)).trans hw230_3), ((HB.out.cell (blc9 w _ hw230_4)).trans hw230_4), ((HB.out.cell (blc9 w _ hw231_0)).trans hw231_0), ((HB.out.cell (blc9 w _ hw231_1)).trans hw231_1), ((HB.out.cell (blc9 w _ hw231_2)).trans hw231_2), ((HB.out.cell (blc9 w _ hw231_3)).trans hw231_3), ((HB.out.cell (blc9 w _ hw231_4)).trans hw231_4), ((HB.out.cell (blc9 w _ hw232_0)).trans hw232_0), ((HB.out.cell (blc9 w _ hw232_1)).trans hw232_1), ((HB.out.cell (blc9 w _ hw232_2)).trans hw232_2), ((HB.out.cell (blc9 w _ hw232_3)).trans hw232_3), ((HB.out.cell (blc9 w _ hw232_4)).trans hw232_4)⟩ (fun hHeld => ?_)
     clear hK K
     refine norm_ (a' := ?_) ?_ ?_
     rotate_left
     ·show Act.put _ (some 7) _ = _
      simp only [Act.put, List.setIfInBounds_toArray, List.set_cons_zero, List.set_cons_succ, i64_w, i32_w]
      rfl
     refine one_ (i := 22) (N := none) #[true, true, true, true, true, true, true, true, true, true, true, true, true, true, true, true, true, true, true, true, true, true, true] rfl rfl (one_of HT_.out (by kernel_rfl)) (by decide) (fun K hK => ?_)
     have hs10 : w9.cell? ⟨gb233, 0, none⟩ = some (.int .i64 0) := (qb BK233.out 0).trans rfl
     have hfs10 := qa BK233.out 0
     have hs11 : w9.cell? ⟨gb233, 1, none⟩ = some (.int .u32 0) := (qb BK233.out 1).trans rfl
     have hfs11 := qa BK233.out 1
     have hs12 : w9.cell? ⟨gb233, 2, none⟩ = some (.int .i64 0) := (qb BK233.out 2).trans rfl
     have hfs12 := qa BK233.out 2
     have hs13 : w9.cell? ⟨gb233, 3, none⟩ = some (.int .i64 0) := (qb BK233.out 3).trans rfl
     have hfs13 := qa BK233.out 3
     have hs14 : w9.cell? ⟨gb233, 4, none⟩ = some (.slice none 0 0) := (qb BK233.out 4).trans rfl
     have hfs14 := qa BK233.out 4
     refine skip_ (w1 := ?_) (by rfl) rfl ?_ ?_
     rotate_left
     ·go_simp
      rfl
     refine hK.out _ _ ⟨((qr (p := ⟨gb233, _, none⟩) (by first | exact nne9 (nlt9 (by have := blc9 _ _ hw229_0; first | rwa [qd] at this | exact this) GW233.out) | (rw [qd]; exact nne9 (nlt9 (by have := blc9 _ _ hw229_0; first | rwa [qd] at this | exact this) GW233.out)) | (show (Addr.add _ _).block ≠ _; rw [qd]; exact nne9 (nlt9 (by have := blc9 _ _ hw229_0; first | rwa [qd] at this | exact this) GW233.out)) | (dsimp only; exact nne9 (nlt9 (by have := blc9 _ _ hw229_0; first | rwa [qd] at this | exact this) GW233.out))) _).trans (((qr (p := ⟨gb233, _, none⟩) (by first | exact nne9 (nlt9 (by have := blc9 _ _ hw229_0; first | rwa [qd] at this | exact this) GW233.out) | (rw [qd]; exact nne9 (nlt9 (by have := blc9 _ _ hw229_0; first | rwa [qd] at this | exact this) GW233.out)) | (show (Addr.add _ _).block ≠ _; rw [qd]; exact nne9 (nlt9 (by have := blc9 _ _ hw229_0; first | rwa [qd] at this | exact this) GW233.out)) | (dsimp only; exact nne9 (nlt9 (by have := blc9 _ _ hw229_0; first | rwa [qd] at this | exact this) GW233.out))) _).trans (((qr (p := ⟨gb233, _, none⟩) (by first | exact nne9 (nlt9 (by have := blc9 _ _ hw229_0; first | rwa [qd] at this | exact this) GW233.out) | (rw [qd]; exact nne9 (nlt9 (by have := blc9 _ _ hw229_0; first | rwa [qd] at this | exact this) GW233.out)) | (show (Addr.add _ _).block ≠ _; rw [qd]; exact nne9 (nlt9 (by have := blc9 _ _ hw229_0; first | rwa [qd] at this | exact this) GW233.out)) | (dsimp only; exact nne9 (nlt9 (by have := blc9 _ _ hw229_0; first | rwa [qd] at this | exact this) GW233.out))) _).trans (((qr (p := ⟨gb233, _, none⟩) (by first | exact nne9 (nlt9 (by have := blc9 _ _ hw229_0; first | rwa [qd] at this | exact this) GW233.out) | (rw [qd]; exact nne9 (nlt9 (by have := blc9 _ _ hw229_0; first | rwa [qd] at this | exact this) GW233.out)) | (show (Addr.add _ _).block ≠ _; rw [qd]; exact nne9 (nlt9 (by have := blc9 _ _ hw229_0; first | rwa [qd] at this | exact this) GW233.out)) | (dsimp only; exact nne9 (nlt9 (by have := blc9 _ _ hw229_0; first | rwa [qd] at this | exact this) GW233.out))) _).trans (((qr (p := ⟨gb233, _, none⟩) (by first | exact nne9 (nlt9 (by have := blc9 _ _ hw229_0; first | rwa [qd] at this | exact this) GW233.out) | (rw [qd]; exact nne9 (nlt9 (by have := blc9 _ _ hw229_0; first | rwa [qd] at this | exact this) GW233.out)) | (show (Addr.add _ _).block ≠ _; rw [qd]; exact nne9 (nlt9 (by have := blc9 _ _ hw229_0; first | rwa [qd] at this | exact this) GW233.out)) | (dsimp only; exact nne9 (nlt9 (by have := blc9 _ _ hw229_0; first | rwa [qd] at this | exact this) GW233.out))) _).trans (hHeld.1)))))))))), ((qr (p := ⟨gb233, _, none⟩) (by first | exact nne9 (nlt9 (by have := blc9 _ _ hw229_1; first | rwa [qd] at this | exact this) GW233.out) | (rw [qd]; exact nne9 (nlt9 (by have := blc9 _ _ hw229_1; first | rwa [qd] at this | exact this) GW233.out)) | (show (Addr.add _ _).block ≠ _; rw [qd]; exact nne9 (nlt9 (by have := blc9 _ _ hw229_1; first | rwa [qd] at this | exact this) GW233.out)) | (dsimp only; exact nne9 (nlt9 (by have := blc9 _ _ hw229_1; first | rwa [qd] at this | exact this) GW233.out))) _).trans (((qr (p := ⟨gb233, _, none⟩) (by first | exact nne9 (nlt9 (by have := blc9 _ _ hw229_1; first | rwa [qd] at this | exact this) GW233.out) | (rw [qd]; exact nne9 (nlt9 (by have := blc9 _ _ hw229_1; first | rwa [qd] at this | exact this) GW233.out)) | (show (Addr.add _ _).block ≠ _; rw [qd]; exact nne9 (nlt9 (by have := blc9 _ _ hw229_1; first | rwa [qd] at this | exact this) GW233.out)) | (dsimp only; exact nne9 (nlt9 (by have := blc9 _ _ hw229_1; first | rwa [qd] at this | exact this) GW233.out))) _).trans (((qr (p := ⟨gb233, _, none⟩) (by first | exact nne9 (nlt9 (by have := blc9 _ _ hw229_1; first | rwa [qd] at this | exact this) GW233.out) | (rw [qd]; exact nne9 (nlt9 (by have := blc9 _ _ hw229_1; first | rwa [qd] at this | exact this) GW233.out)) | (show (Addr.add _ _).block ≠ _; rw [qd]; exact nne9 (nlt9 (by have := blc9 _ _ hw229_1; first | rwa [qd] at this | exact this) GW233.out)) | (dsimp only; exact nne9 (nlt9 (by have := blc9 _ _ hw229_1; first | rwa [qd] at this | exact this) GW233.out))) _).trans (((qr (p := ⟨gb233, _, none⟩) (by first | exact nne9 (nlt9 (by have := blc9 _ _ hw229_1; first | rwa [qd] at this | exact this) GW233.out) | (rw [qd]; exact nne9 (nlt9 (by have := blc9 _ _ hw229_1; first | rwa [qd] at this | exact this) GW233.out)) | (show (Addr.add _ _).block ≠ _; rw [qd]; exact nne9 (nlt9 (by have := blc9 _ _ hw229_1; first | rwa [qd] at this | exact this) GW233.out)) | (dsimp only; exact nne9 (nlt9 (by have := blc9 _ _ hw229_1; first | rwa [qd] at this | exact this) GW233.out))) _).trans (((qr (p := ⟨gb233, _, none⟩) (by first | exact nne9 (nlt9 (by have := blc9 _ _ hw229_1; first | rwa [qd] at this | exact this) GW233.out) | (rw [qd]; exact nne9 (nlt9 (by have := blc9 _ _ hw229_1; first | rwa [qd] at this | exact this) GW233.out)) | (show (Addr.add _ _).block ≠ _; rw [qd]; exact nne9 (nlt9 (by have := blc9 _ _ hw229_1; first | rwa [qd] at this | exact this) GW233.out)) | (dsimp only; exact nne9 (nlt9 (by have := blc9 _ _ hw229_1; first | rwa [qd] at this | exact this) GW233.out))) _).trans (hHeld.2.1)))))))))), ((qr (p := ⟨gb233, _, none⟩) (by first | exact nne9 (nlt9 (by have := blc9 _ _ hw229_2; first | rwa [qd] at this | exact this) GW233.out) | (rw [qd]; exact nne9 (nlt9 (by have := blc9 _ _ hw229_2; first | rwa [qd] at this | exact this) GW233.out)) | (show (Addr.add _ _).block ≠ _; rw [qd]; exact nne9 (nlt9 (by have := blc9 _ _ hw229_2; first | rwa [qd] at this | exact this) GW233.out)) | (dsimp only; exact nne9 (nlt9 (by have := blc9 _ _ hw229_2; first | rwa [qd] at this | exact this) GW233.out))) _).trans (((qr (p := ⟨gb233, _, none⟩) (by first | exact nne9 (nlt9 (by have := blc9 _ _ hw229_2; first | rwa [qd] at this | exact this) GW233.out) | (rw [qd]; exact nne9 (nlt9 (by have := blc9 _ _ hw229_2; first | rwa [qd] at this | exact this) GW233.out)) | (show (Addr.add _ _).block ≠ _; rw [qd]; exact nne9 (nlt9 (by have := blc9 _ _ hw229_2; first | rwa [qd] at this | exact this) GW233.out)) | (dsimp only; exact nne9 (nlt9 (by have := blc9 _ _ hw229_2; first | rwa [qd] at this | exact this) GW233.out))) _).trans (((qr (p := ⟨gb233, _, none⟩) (by first | exact nne9 (nlt9 (by have := blc9 _ _ hw229_2; first | rwa [qd] at this | exact this) GW233.out) | (rw [qd]; exact nne9 (nlt9 (by have := blc9 _ _ hw229_2; first | rwa [qd] at this | exact this) GW233.out)) | (show (Addr.add _ _).block ≠ _; rw [qd]; exact nne9 (nlt9 (by have := blc9 _ _ hw229_2; first | rwa [qd] at this | exact this) GW233.out)) | (dsimp only; exact nne9 (nlt9 (by have := blc9 _ _ hw229_2; first | rwa [qd] at this | exact this) GW233.out))) _).trans (((qr (p := ⟨gb233, _, none⟩) (by first | exact nne9 (nlt9 (by have := blc9 _ _ hw229_2; first | rwa [qd] at this | exact this) GW233.out) | (rw [qd]; exact nne9 (nlt9 (by have := blc9 _ _ hw229_2; first | rwa [qd] at this | exact this) GW233.out)) | (show (Addr.add _ _).block ≠ _; rw [qd]; exact nne9 (nlt9 (by have := blc9 _ _ hw229_2; first | rwa [qd] at this | exact this) GW233.out)) | (dsimp only; exact nne9 (nlt9 (by have := blc9 _ _ hw229_2; first | rwa [qd] at this | exact this) GW233.out))) _).trans (((qr (p := ⟨gb233, _, none⟩) (by first | exact nne9 (nlt9 (by have := blc9 _ _ hw229_2; first | rwa [qd] at this | exact this) GW233.out) | (rw [qd]; exact nne9 (nlt9 (by have := blc9 _ _ hw229_2; first | rwa [qd] at this | exact this) GW233.out)) | (show (Addr.add _ _).block ≠ _; rw [qd]; exact nne9 (nlt9 (by have := blc9 _ _ hw229_2; first | rwa [qd] at this | exact this) GW233.out)) | (dsimp only; exact nne9 (nlt9 (by have := blc9 _ _ hw229_2; first | rwa [qd] at this | exact this) GW233.out))) _).trans (hHeld.2.2.1)))))))))), ((qr (p := ⟨gb233, _, none⟩) (by first | exact nne9 (nlt9 (by have := blc9 _ _ hw229_3; first | rwa [qd] at this | exact this) GW233.out) | (rw [qd]; exact nne9 (nlt9 (by have := blc9 _ _ hw229_3; first | rwa [qd] at this | exact this) GW233.out)) | (show (Addr.add _ _).block ≠ _; rw [qd]; exact nne9 (nlt9 (by have := blc9 _ _ hw229_3; first | rwa [qd] at this | exact this) GW233.out)) | (dsimp only; exact nne9 (nlt9 (by have := blc9 _ _ hw229_3; first | rwa [qd] at this | exact this) GW233.out))) _).trans (((qr (p := ⟨gb233, _, none⟩) (by first | exact nne9 (nlt9 (by have := blc9 _ _ hw229_3; first | rwa [qd] at this | exact this) GW233.out) | (rw [qd]; exact nne9 (nlt9 (by have := blc9 _ _ hw229_3; first | rwa [qd] at this | exact this) GW233.out)) | (show (Addr.add _ _).block ≠ _; rw [qd]; exact nne9 (nlt9 (by have := blc9 _ _ hw229_3; first | rwa [qd] at this | exact this) GW233.out)) | (dsimp only; exact nne9 (nlt9 (by have := blc9 _ _ hw229_3; first | rwa [qd] at this | exact this) GW233.out))) _).trans (((qr (p := ⟨gb233, _, none⟩) (by first | exact nne9 (nlt9 (by have := blc9 _ _ hw229_3; first | rwa [qd] at this | exact this) GW233.out) | (rw [qd]; exact nne9 (nlt9 (by have := blc9 _ _ hw229_3; first | rwa [qd] at this | exact this) GW233.out)) | (show (Addr.add _ _).block ≠ _; rw [qd]; exact nne9 (nlt9 (by have := blc9 _ _ hw229_3; first | rwa [qd] at this | exact this) GW233.out)) | (dsimp only; exact nne9 (nlt9 (by have := blc9 _ _ hw229_3; first | rwa [qd] at this | exact this) GW233.out))) _).trans (((qr (p := ⟨gb233, _, none⟩) (by first | exact nne9 (nlt9 (by have := blc9 _ _ hw229_3; first | rwa [qd] at this | exact this) GW233.out) | (rw [qd]; exact nne9 (nlt9 (by have := blc9 _ _ hw229_3; first | rwa [qd] at this | exact this) GW233.out)) | (show (Addr.add _ _).block ≠ _; rw [qd]; exact nne9 (nlt9 (by have := blc9 _ _ hw229_3; first | rwa [qd] at this | exact this) GW233.out)) | (dsimp only; exact nne9 (nlt9 (by have := blc9 _ _ hw229_3; first | rwa [qd] at this | exact this) GW233.out))) _).trans (((qr (p := ⟨gb233, _, none⟩) (by first | exact nne9 (nlt9 (by have := blc9 _ _ hw229_3; first | rwa [qd] at this | exact this) GW233.out) | (rw [qd]; exact nne9 (nlt9 (by have := blc9 _ _ hw229_3; first | rwa [qd] at this | exact this) GW233.out)) | (show (Addr.add _ _).block ≠ _; rw [qd]; exact nne9 (nlt9 (by have := blc9 _ _ hw229_3; first | rwa [qd] at this | exact this) GW233.out)) | (dsimp only; exact nne9 (nlt9 (by have := blc9 _ _ hw229_3; first | rwa [qd] at this | exact this) GW233.out))) _).trans (hHeld.2.2.2.1)))))))))), ((qr (p := ⟨gb233, _, none⟩) (by first | exact nne9 (nlt9 (by have := blc9 _ _ hw229_4; first | rwa [qd] at this | exact this) GW233.out) | (rw [qd]; exact nne9 (nlt9 (by have := blc9 _ _ hw229_4; first | rwa [qd] at this | exact this) GW233.out)) | (show (Addr.add _ _).block ≠ _; rw [qd]; exact nne9 (nlt9 (by have := blc9 _ _ hw229_4; first | rwa [qd] at this | exact this) GW233.out)) | (dsimp only; exact nne9 (nlt9 (by have := blc9 _ _ hw229_4; first | rwa [qd] at this | exact this) GW233.out))) _).trans (((qr (p := ⟨gb233, _, none⟩) (by first | exact nne9 (nlt9 (by have := blc9 _ _ hw229_4; first | rwa [qd] at this | exact this) GW233.out) | (rw [qd]; exact nne9 (nlt9 (by have := blc9 _ _ hw229_4; first | rwa [qd] at this | exact this) GW233.out)) | (show (Addr.add _ _).block ≠ _; rw [qd]; exact nne9 (nlt9 (by have := blc9 _ _ hw229_4; first | rwa [qd] at this | exact this) GW233.out)) | (dsimp only; exact nne9 (nlt9 (by have := blc9 _ _ hw229_4; first | rwa [qd] at this | exact this) GW233.out))) _).trans (((qr (p := ⟨gb233, _, none⟩) (by first | exact nne9 (nlt9 (by have := blc9 _ _ hw229_4; first | rwa [qd] at this | exact this) GW233.out) | (rw [qd]; exact nne9 (nlt9 (by have := blc9 _ _ hw229_4; first | rwa [qd] at this | exact this) GW233.out)) | (show (Addr.add _ _).block ≠ _; rw [qd]; exact nne9 (nlt9 (by have := blc9 _ _ hw229_4; first | rwa [qd] at this | exact this) GW233.out)) | (dsimp only; exact nne9 (nlt9 (by have := blc9 _ _ hw229_4; first | rwa [qd] at this | exact this) GW233.out))) _).trans (((qr (p := ⟨gb233, _, none⟩) (by first | exact nne9 (nlt9 (by have := blc9 _ _ hw229_4; first | rwa [qd] at this | exact this) GW233.out) | (rw [qd]; exact nne9 (nlt9 (by have := blc9 _ _ hw229_4; first | rwa [qd] at this | exact this) GW233.out)) | (show (Addr.add _ _).block ≠ _; rw [qd]; exact nne9 (nlt9 (by have := blc9 _ _ hw229_4; first | rwa [qd] at this | exact this) GW233.out)) | (dsimp only; exact nne9 (nlt9 (by have := blc9 _ _ hw229_4; first | rwa [qd] at this | exact this) GW233.out))) _).trans (((qr (p := ⟨gb233, _, none⟩) (by first | exact nne9 (nlt9 (by have := blc9 _ _ hw229_4; first | rwa [qd] at this | exact this) GW233.out) | (rw [qd]; exact nne9 (nlt9 (by have := blc9 _ _ hw229_4; first | rwa [qd] at this | exact this) GW233.out)) | (show (Addr.add _ _).block ≠ _; rw [qd]; exact nne9 (nlt9 (by have := blc9 _ _ hw229_4; first | rwa [qd] at this | exact this) GW233.out)) | (dsimp only; exact nne9 (nlt9 (by have := blc9 _ _ hw229_4; first | rwa [qd] at this | exact this) GW233.out))) _).trans (hHeld.2.2.2.2.1)))))))))), ((qr (p := ⟨gb233, _, none⟩) (by first | exact nne9 (nlt9 (by have := blc9 _ _ hw230_0; first | rwa [qd] at this | exact this) GW233.out) | (rw [qd]; exact nne9 (nlt9 (by have := blc9 _ _ hw230_0; first | rwa [qd] at this | exact this) GW233.out)) | (show (Addr.add _ _).block ≠ _; rw [qd]; exact nne9 (nlt9 (by have := blc9 _ _ hw230_0; first | rwa [qd] at this | exact this) GW233.out)) | (dsimp only; exact nne9 (nlt9 (by have := blc9 _ _ hw230_0; first | rwa [qd] at this | exact this) GW233.out))) _).trans (((qr (p := ⟨gb233, _, none⟩) (by first | exact nne9 (nlt9 (by have := blc9 _ _ hw230_0; first | rwa [qd] at this | exact this) GW233.out) | (rw [qd]; exact nne9 (nlt9 (by have := blc9 _ _ hw230_0; first | rwa [qd] at this | exact this) GW233.out)) | (show (Addr.add _ _).block ≠ _; rw [qd]; exact nne9 (nlt9 (by have := blc9 _ _ hw230_0; first | rwa [qd] at this | exact this) GW233.out)) | (dsimp only; exact nne9 (nlt9 (by have := blc9 _ _ hw230_0; first | rwa [qd] at this | exact this) GW233.out))) _).trans (((qr (p := ⟨gb233, _, none⟩) (by first | exact nne9 (nlt9 (by have := blc9 _ _ hw230_0; first | rwa [qd] at this | exact this) GW233.out) | (rw [qd]; exact nne9 (nlt9 (by have := blc9 _ _ hw230_0; first | rwa [qd] at this | exact this) GW233.out)) | (show (Addr.add _ _).block ≠ _; rw [qd]; exact nne9 (nlt9 (by have := blc9 _ _ hw230_0; first | rwa [qd] at this | exact this) GW233.out)) | (dsimp only; exact nne9 (nlt9 (by have := blc9 _ _ hw230_0; first | rwa [qd] at this | exact this) GW233.out))) _).trans (((qr (p := ⟨gb233, _, none⟩) (by first | exact nne9 (nlt9 (by have := blc9 _ _ hw230_0; first | rwa [qd] at this | exact this) GW233.out) | (rw [qd]; exact nne9 (nlt9 (by have := blc9 _ _ hw230_0; first | rwa [qd] at this | exact this) GW233.out)) | (show (Addr.add _ _).block ≠ _; rw [qd]; exact nne9 (nlt9 (by have := blc9 _ _ hw230_0; first | rwa [qd] at this | exact this) GW233.out)) | (dsimp only; exact nne9 (nlt9 (by have := blc9 _ _ hw230_0; first | rwa [qd] at this | exact this) GW233.out))) _).trans (((qr (p := ⟨gb233, _, none⟩) (by first | exact nne9 (nlt9 (by have := blc9 _ _ hw230_0; first | rwa [qd] at this | exact this) GW233.out) | (rw [qd]; exact nne9 (nlt9 (by have := blc9 _ _ hw230_0; first | rwa [qd] at this | exact this) GW233.out)) | (show (Addr.add _ _).block ≠ _; rw [qd]; exact nne9 (nlt9 (by have := blc9 _ _ hw230_0; first | rwa [qd] at this | exact this) GW233.out)) | (dsimp only; exact nne9 (nlt9 (by have := blc9 _ _ hw230_0; first | rwa [qd] at this | exact this) GW233.out))) _).trans (hHeld.2.2.2.2.2.1)))))))))), ((qr (p := ⟨gb233, _, none⟩) (by first | exact nne9 (nlt9 (by have := blc9 _ _ hw230_1; first | rwa [qd] at this | exact this) GW233.out) | (rw [qd]; exact nne9 (nlt9 (by have := blc9 _ _ hw230_1; first | rwa [qd] at this | exact this) GW233.out)) | (show (Addr.add _ _).block ≠ _; rw [qd]; exact nne9 (nlt9 (by have := blc9 _ _ hw230_1; first | rwa [qd] at this | exact this) GW233.out)) | (dsimp only; exact nne9 (nlt9 (by have := blc9 _ _ hw230_1; first | rwa [qd] at this | exact this) GW233.out))) _).trans (((qr (p := ⟨gb233, _, none⟩) (by first | exact nne9 (nlt9 (by have := blc9 _ _ hw230_1; first | rwa [qd] at this | exact this) GW233.out) | (rw [qd]; exact nne9 (nlt9 (by have := blc9 _ _ hw230_1; first | rwa [qd] at this | exact this) GW233.out)) | (show (Addr.add _ _).block ≠ _; rw [qd]; exact nne9 (nlt9 (by have := blc9 _ _ hw230_1; first | rwa [qd] at this | exact this) GW233.out)) | (dsimp only; exact nne9 (nlt9 (by have := blc9 _ _ hw230_1; first | rwa [qd] at this | exact this) GW233.out))) _).trans (((qr (p := ⟨gb233, _, none⟩) (by first | exact nne9 (nlt9 (by have := blc9 _ _ hw230_1; first | rwa [qd] at this | exact this) GW233.out) | (rw [qd]; exact nne9 (nlt9 (by have := blc9 _ _ hw230_1; first | rwa [qd] at this | exact this) GW233.out)) | (show (Addr.add _ _).block ≠ _; rw [qd]; exact nne9 (nlt9 (by have := blc9 _ _ hw230_1; first | rwa [qd] at this | exact this) GW233.out)) | (dsimp only; exact nne9 (nlt9 (by have := blc9 _ _ hw230_1; first | rwa [qd] at this | exact this) GW233.out))) _).trans (((qr (p := ⟨gb233, _, none⟩) (by first | exact nne9 (nlt9 (by have := blc9 _ _ hw230_1; first | rwa [qd] at this | exact this) GW233.out) | (rw [qd]; exact nne9 (nlt9 (by have := blc9 _ _ hw230_1; first | rwa [qd] at this | exact this) GW233.out)) | (show (Addr.add _ _).block ≠ _; rw [qd]; exact nne9 (nlt9 (by have := blc9 _ _ hw230_1; first | rwa [qd] at this | exact this) GW233.out)) | (dsimp only; exact nne9 (nlt9 (by have := blc9 _ _ hw230_1; first | rwa [qd] at this | exact this) GW233.out))) _).trans (((qr (p := ⟨gb233, _, none⟩) (by first | exact nne9 (nlt9 (by have := blc9 _ _ hw230_1; first | rwa [qd] at this | exact this) GW233.out) | (rw [qd]; exact nne9 (nlt9 (by have := blc9 _ _ hw230_1; first | rwa [qd] at this | exact this) GW233.out)) | (show (Addr.add _ _).block ≠ _; rw [qd]; exact nne9 (nlt9 (by have := blc9 _ _ hw230_1; first | rwa [qd] at this | exact this) GW233.out)) | (dsimp only; exact nne9 (nlt9 (by have := blc9 _ _ hw230_1; first | rwa [qd] at this | exact this) GW233.out))) _).trans (hHeld.2.2.2.2.2.2.1)))))))))), ((qr (p := ⟨gb233, _, none⟩) (by first | exact nne9 (nlt9 (by have := blc9 _ _ hw230_2; first | rwa [qd] at this | exact this) GW233.out) | (rw [qd]; exact nne9 (nlt9 (by have := blc9 _ _ hw230_2; first | rwa [qd] at this | exact this) GW233.out)) | (show (Addr.add _ _).block ≠ _; rw [qd]; exact nne9 (nlt9 (by have := blc9 _ _ hw230_2; first | rwa [qd] at this | exact this) GW233.out)) | (dsimp only; exact nne9 (nlt9 (by have := blc9 _ _ hw230_2; first | rwa [qd] at this | exact this) GW233.out))) _).trans (((qr (p := ⟨gb233, _, none⟩) (by first | exact nne9 (nlt9 (by have := blc9 _ _ hw230_2; first | rwa [qd] at this | exact this) GW233.out) | (rw [qd]; exact nne9 (nlt9 (by have := blc9 _ _ hw230_2; first | rwa [qd] at this | exact this) GW233.out)) | (show (Addr.add _ _).block ≠ _; rw [qd]; exact nne9 (nlt9 (by have := blc9 _ _ hw230_2; first | rwa [qd] at this | exact this) GW233.out)) | (dsimp only; exact nne9 (nlt9 (by have := blc9 _ _ hw230_2; first | rwa [qd] at this | exact this) GW233.out))) _).trans (((qr (p := ⟨gb233, _, none⟩) (by first | exact nne9 (nlt9 (by have := blc9 _ _ hw230_2; first | rwa [qd] at this | exact this) GW233.out) | (rw [qd]; exact nne9 (nlt9 (by have := blc9 _ _ hw230_2; first | rwa [qd] at this | exact this) GW233.out)) | (show (Addr.add _ _).block ≠ _; rw [qd]; exact nne9 (nlt9 (by have := blc9 _ _ hw230_2; first | rwa [qd] at this | exact this) GW233.out)) | (dsimp only; exact nne9 (nlt9 (by have := blc9 _ _ hw230_2; first | rwa [qd] at this | exact this) GW233.out))) _).trans (((qr (p := ⟨gb233, _, none⟩) (by first | exact nne9 (nlt9 (by have := blc9 _ _ hw230_2; first | rwa [qd] at this | exact this) GW233.out) | (rw [qd]; exact nne9 (nlt9 (by have := blc9 _ _ hw230_2; first | rwa [qd] at this | exact this) GW233.out)) | (show (Addr.add _ _).block ≠ _; rw [qd]; exact nne9 (nlt9 (by have := blc9 _ _ hw230_2; first | rwa [qd] at this | exact this) GW233.out)) | (dsimp only; exact nne9 (nlt9 (by have := blc9 _ _ hw230_2; first | rwa [qd] at this | exact this) GW233.out))) _).trans (((qr (p := ⟨gb233, _, none⟩) (by first | exact nne9 (nlt9 (by have := blc9 _ _ hw230_2; first | rwa [qd] at this | exact this) GW233.out) | (rw [qd]; exact nne9 (nlt9 (by have := blc9 _ _ hw230_2; first | rwa [qd] at this | exact this) GW233.out)) | (show (Addr.add _ _).block ≠ _; rw [qd]; exact nne9 (nlt9 (by have := blc9 _ _ hw230_2; first | rwa [qd] at this | exact this) GW233.out)) | (dsimp only; exact nne9 (nlt9 (by have := blc9 _ _ hw230_2; first | rwa [qd] at this | exact this) GW233.out))) _).trans (hHeld.2.2.2.2.2.2.2.1)))))))))), ((qr (p := ⟨gb233, _, none⟩) (by first | exact nne9 (nlt9 (by have := blc9 _ _ hw230_3; first | rwa [qd] at this | exact this) GW233.out) | (rw [qd]; exact nne9 (nlt9 (by have := blc9 _ _ hw230_3; first | rwa [qd] at this | exact this) GW233.out)) | (show (Addr.add _ _).block ≠ _; rw [qd]; exact nne9 (nlt9 (by have := blc9 _ _ hw230_3; first | rwa [qd] at this | exact this) GW233.out)) | (dsimp only; exact nne9 (nlt9 (by have := blc9 _ _ hw230_3; first | rwa [qd] at this | exact this) GW233.out))) _).trans (((qr (p := ⟨gb233, _, none⟩) (by first | exact nne9 (nlt9 (by have := blc9 _ _ hw230_3; first | rwa [qd] at this | exact this) GW233.out) | (rw [qd]; exact nne9 (nlt9 (by have := blc9 _ _ hw230_3; first | rwa [qd] at this | exact this) GW233.out)) | (show (Addr.add _ _).block ≠ _; rw [qd]; exact nne9 (nlt9 (by have := blc9 _ _ hw230_3; first | rwa [qd] at this | exact this) GW233.out)) | (dsimp only; exact nne9 (nlt9 (by have := blc9 _ _ hw230_3; first | rwa [qd] at this | exact this) GW233.out))) _).trans (((qr (p := ⟨gb233, _, none⟩) (by first | exact nne9 (nlt9 (by have := blc9 _ _ hw230_3; first | rwa [qd] at this | exact this) GW233.out) | (rw [qd]; exact nne9 (nlt9 (by have := blc9 _ _ hw230_3; first | rwa [qd] at this | exact this) GW233.out)) | (show (Addr.add _ _).block ≠ _; rw [qd]; exact nne9 (nlt9 (by have := blc9 _ _ hw230_3; first | rwa [qd] at this | exact this) GW233.out)) | (dsimp only; exact nne9 (nlt9 (by have := blc9 _ _ hw230_3; first | rwa [qd] at this | exact this) GW233.out))) _).trans (((qr (p := ⟨gb233, _, none⟩) (by first | exact nne9 (nlt9 (by have := blc9 _ _ hw230_3; first | rwa [qd] at this | exact this) GW233.out) | (rw [qd]; exact nne9 (nlt9 (by have := blc9 _ _ hw230_3; first | rwa [qd] at this | exact this) GW233.out)) | (show (Addr.add _ _).block ≠ _; rw [qd]; exact nne9 (nlt9 (by have := blc9 _ _ hw230_3; first | rwa [qd] at this | exact this) GW233.out)) | (dsimp only; exact nne9 (nlt9 (by have := blc9 _ _ hw230_3; first | rwa [qd] at this | exact this) GW233.out))) _).trans (((qr (p := ⟨gb233, _, none⟩) (by first | exact nne9 (nlt9 (by have := blc9 _ _ hw230_3; first | rwa [qd] at this | exact this) GW233.out) | (rw [qd]; exact nne9 (nlt9 (by have := blc9 _ _ hw230_3; first | rwa [qd] at this | exact this) GW233.out)) | (show (Addr.add _ _).block ≠ _; rw [qd]; exact nne9 (nlt9 (by have := blc9 _ _ hw230_3; first | rwa [qd] at this | exact this) GW233.out)) | (dsimp only; exact nne9 (nlt9 (by have := blc9 _ _ hw230_3; first | rwa [qd] at this | exact this) GW233.out))) _).trans (hHeld.2.2.2.2.2.2.2.2.1)))))))))), ((qr (p := ⟨gb233, _, none⟩) (by first | exact nne9 (nlt9 (by have := blc9 _ _ hw230_4; first | rwa [qd] at this | exact this) GW233.out) | (rw [qd]; exact nne9 (nlt9 (by have := blc9 _ _ hw230_4; first | rwa [qd] at this | exact this) GW233.out)) | (show (Addr.add _ _).block ≠ _; rw [qd]; exact nne9 (nlt9 (by have := blc9 _ _ hw230_4; first | rwa [qd] at this | exact this) GW233.out)) | (dsimp only; exact nne9 (nlt9 (by have := blc9 _ _ hw230_4; first | rwa [qd] at this | exact this) GW233.out))) _).trans (((qr (p := ⟨gb233, _, none⟩) (by first | exact nne9 (nlt9 (by have := blc9 _ _ hw230_4; first | rwa [qd] at this | exact this) GW233.out) | (rw [qd]; exact nne9 (nlt9 (by have := blc9 _ _ hw230_4; first | rwa [qd] at this | exact this) GW233.out)) | (show (Addr.add _ _).block ≠ _; rw [qd]; exact nne9 (nlt9 (by have := blc9 _ _ hw230_4; first | rwa [qd] at this | exact this) GW233.out)) | (dsimp only; exact nne9 (nlt9 (by have := blc9 _ _ hw230_4; first | rwa [qd] at this | exact this) GW233.out))) _).trans (((qr (p := ⟨gb233, _, none⟩) (by first | exact nne9 (nlt9 (by have := blc9 _ _ hw230_4; first | rwa [qd] at this | exact this) GW233.out) | (rw [qd]; exact nne9 (nlt9 (by have := blc9 _ _ hw230_4; first | rwa [qd] at this | exact this) GW233.out)) | (show (Addr.add _ _).block ≠ _; rw [qd]; exact nne9 (nlt9 (by have := blc9 _ _ hw230_4; first | rwa [qd] at this | exact this) GW233.out)) | (dsimp only; exact nne9 (nlt9 (by have := blc9 _ _ hw230_4; first | rwa [qd] at this | exact this) GW233.out))) _).trans (((qr (p := ⟨gb233, _, none⟩) (by first | exact nne9 (nlt9 (by have := blc9 _ _ hw230_4; first | rwa [qd] at this | exact this) GW233.out) | (rw [qd]; exact nne9 (nlt9 (by have := blc9 _ _ hw230_4; first | rwa [qd] at this | exact this) GW233.out)) | (show (Addr.add _ _).block ≠ _; rw [qd]; exact nne9 (nlt9 (by have := blc9 _ _ hw230_4; first | rwa [qd] at this | exact this) GW233.out)) | (dsimp only; exact nne9 (nlt9 (by have := blc9 _ _ hw230_4; first | rwa [qd] at this | exact this) GW233.out))) _).trans (((qr (p := ⟨gb233, _, none⟩) (by first | exact nne9 (nlt9 (by have := blc9 _ _ hw230_4; first | rwa [qd] at this | exact this) GW233.out) | (rw [qd]; exact nne9 (nlt9 (by have := blc9 _ _ hw230_4; first | rwa [qd] at this | exact this) GW233.out)) | (show (Addr.add _ _).block ≠ _; rw [qd]; exact nne9 (nlt9 (by have := blc9 _ _ hw230_4; first | rwa [qd] at this | exact this) GW233.out)) | (dsimp only; exact nne9 (nlt9 (by have := blc9 _ _ hw230_4; first | rwa [qd] at this | exact this) GW233.out))) _).trans (hHeld.2.2.2.2.2.2.2.2.2.1)))))))))), ((qr (p := ⟨gb233, _, none⟩) (by first | exact nne9 (nlt9 (by have := blc9 _ _ hw231_0; first | rwa [qd] at this | exact this) GW233.out) | (rw [qd]; exact nne9 (nlt9 (by have := blc9 _ _ hw231_0; first | rwa [qd] at this | exact this) GW233.out)) | (show (Addr.add _ _).block ≠ _; rw [qd]; exact nne9 (nlt9 (by have := blc9 _ _ hw231_0; first | rwa [qd] at this | exact this) GW233.out)) | (dsimp only; exact nne9 (nlt9 (by have := blc9 _ _ hw231_0; first | rwa [qd] at this | exact this) GW233.out))) _).trans (((qr (p := ⟨gb233, _, none⟩) (by first | exact nne9 (nlt9 (by have := blc9 _ _ hw231_0; first | rwa [qd] at this | exact this) GW233.out) | (rw [qd]; exact nne9 (nlt9 (by have := blc9 _ _ hw231_0; first | rwa [qd] at this | exact this) GW233.out)) | (show (Addr.add _ _).block ≠ _; rw [qd]; exact nne9 (nlt9 (by have := blc9 _ _ hw231_0; first | rwa [qd] at this | exact this) GW233.out)) | (dsimp only; exact nne9 (nlt9 (by have := blc9 _ _ hw231_0; first | rwa [qd] at this | exact this) GW233.out))) _).trans (((qr (p := ⟨gb233, _, none⟩) (by first | exact nne9 (nlt9 (by have := blc9 _ _ hw231_0; first | rwa [qd] at this | exact this) GW233.out) | (rw [qd]; exact nne9 (nlt9 (by have := blc9 _ _ hw231_0; first | rwa [qd] at this | exact this) GW233.out)) | (show (Addr.add _ _).block ≠ _; rw [qd]; exact nne9 (nlt9 (by have := blc9 _ _ hw231_0; first | rwa [qd] at this | exact this) GW233.out)) | (dsimp only; exact nne9 (nlt9 (by have := blc9 _ _ hw231_0; first | rwa [qd] at this | exact this) GW233.out))) _).trans (((qr (p := ⟨gb233, _, none⟩) (by first | exact nne9 (nlt9 (by have := blc9 _ _ hw231_0; first | rwa [qd] at this | exact this) GW233.out) | (rw [qd]; exact nne9 (nlt9 (by have := blc9 _ _ hw231_0; first | rwa [qd] at this | exact this) GW233.out)) | (show (Addr.add _ _).block ≠ _; rw [qd]; exact nne9 (nlt9 (by have := blc9 _ _ hw231_0; first | rwa [qd] at this | exact this) GW233.out)) | (dsimp only; exact nne9 (nlt9 (by have := blc9 _ _ hw231_0; first | rwa [qd] at this | exact this) GW233.out))) _).trans (((qr (p := ⟨gb233, _, none⟩) (by first | exact nne9 (nlt9 (by have := blc9 _ _ hw231_0; first | rwa [qd] at this | exact this) GW233.out) | (rw [qd]; exact nne9 (nlt9 (by have := blc9 _ _ hw231_0; first | rwa [qd] at this | exact this) GW233.out)) | (show (Addr.add _ _).block ≠ _; rw [qd]; exact nne9 (nlt9 (by have := blc9 _ _ hw231_0; first | rwa [qd] at this | exact this) GW233.out)) | (dsimp only; exact nne9 (nlt9 (by have := blc9 _ _ hw231_0; first | rwa [qd] at this | exact this) GW233.out))) _).trans (hHeld.2.2.2.2.2.2.2.2.2.2.1)))))))))), ((qr (p := ⟨gb233, _, none⟩) (by first | exact nne9 (nlt9 (by have := blc9 _ _ hw231_1; first | rwa [qd] at this | exact this) GW233.out) | (rw [qd]; exact nne9 (nlt9 (by have := blc9 _ _ hw231_1; first | rwa [qd] at this | exact this) GW233.out)) | (show (Addr.add _ _).block ≠ _; rw [qd]; exact nne9 (nlt9 (by have := blc9 _ _ hw231_1; first | rwa [qd] at this | exact this) GW233.out)) | (dsimp only; exact nne9 (nlt9 (by have := blc9 _ _ hw231_1; first | rwa [qd] at this | exact this) GW233.out))) _).trans (((qr (p := ⟨gb233, _, none⟩) (by first | exact nne9 (nlt9 (by have := blc9 _ _ hw231_1; first | rwa [qd] at this | exact this) GW233.out) | (rw [qd]; exact nne9 (nlt9 (by have := blc9 _ _ hw231_1; first | rwa [qd] at this | exact this) GW233.out)) | (show (Addr.add _ _).block ≠ _; rw [qd]; exact nne9 (nlt9 (by have := blc9 _ _ hw231_1; first | rwa [qd] at this | exact this) GW233.out)) | (dsimp only; exact nne9 (nlt9 (by have := blc9 _ _ hw231_1; first | rwa [qd] at this | exact this) GW233.out))) _).trans (((qr (p := ⟨gb233, _, none⟩) (by first | exact nne9 (nlt9 (by have := blc9 _ _ hw231_1; first | rwa [qd] at this | exact this) GW233.out) | (rw [qd]; exact nne9 (nlt9 (by have := blc9 _ _ hw231_1; first | rwa [qd] at this | exact this) GW233.out)) | (show (Addr.add _ _).block ≠ _; rw [qd]; exact nne9 (nlt9 (by have := blc9 _ _ hw231_1; first | rwa [qd] at this | exact this) GW233.out)) | (dsimp only; exact nne9 (nlt9 (by have := blc9 _ _ hw231_1; first | rwa [qd] at this | exact this) GW233.out))) _).trans (((qr (p := ⟨gb233, _, none⟩) (by first | exact nne9 (nlt9 (by have := blc9 _ _ hw231_1; first | rwa [qd] at this | exact this) GW233.out) | (rw [qd]; exact nne9 (nlt9 (by have := blc9 _ _ hw231_1; first | rwa [qd] at this | exact this) GW233.out)) | (show (Addr.add _ _).block ≠ _; rw [qd]; exact nne9 (nlt9 (by have := blc9 _ _ hw231_1; first | rwa [qd] at this | exact this) GW233.out)) | (dsimp only; exact nne9 (nlt9 (by have := blc9 _ _ hw231_1; first | rwa [qd] at this | exact this) GW233.out))) _).trans (((qr (p := ⟨gb233, _, none⟩) (by first | exact nne9 (nlt9 (by have := blc9 _ _ hw231_1; first | rwa [qd] at this | exact this) GW233.out) | (rw [qd]; exact nne9 (nlt9 (by have := blc9 _ _ hw231_1; first | rwa [qd] at this | exact this) GW233.out)) | (show (Addr.add _ _).block ≠ _; rw [qd]; exact nne9 (nlt9 (by have := blc9 _ _ hw231_1; first | rwa [qd] at this | exact this) GW233.out)) | (dsimp only; exact nne9 (nlt9 (by have := blc9 _ _ hw231_1; first | rwa [qd] at this | exact this) GW233.out))) _).trans (hHeld.2.2.2.2.2.2.2.2.2.2.2.1)))))))))), ((qr (p := ⟨gb233, _, none⟩) (by first | exact nne9 (nlt9 (by have := blc9 _ _ hw231_2; first | rwa [qd] at this | exact this) GW233.out) | (rw [qd]; exact nne9 (nlt9 (by have := blc9 _ _ hw231_2; first | rwa [qd] at this | exact this) GW233.out)) | (show (Addr.add _ _).block ≠ _; rw [qd]; exact nne9 (nlt9 (by have := blc9 _ _ hw231_2; first | rwa [qd] at this | exact this) GW233.out)) | (dsimp only; exact nne9 (nlt9 (by have := blc9 _ _ hw231_2; first | rwa [qd] at this | exact this) GW233.out))) _).trans (((qr (p := ⟨gb233, _, none⟩) (by first | exact nne9 (nlt9 (by have := blc9 _ _ hw231_2; first | rwa [qd] at this | exact this) GW233.out) | (rw [qd]; exact nne9 (nlt9 (by have := blc9 _ _ hw231_2; first | rwa [qd] at this | exact this) GW233.out)) | (show (Addr.add _ _).block ≠ _; rw [qd]; exact nne9 (nlt9 (by have := blc9 _ _ hw231_2; first | rwa [qd] at this | exact this) GW233.out)) | (dsimp only; exact nne9 (nlt9 (by have := blc9 _ _ hw231_2; first | rwa [qd] at this | exact this) GW233.out))) _).trans (((qr (p := ⟨gb233, _, none⟩) (by first | exact nne9 (nlt9 (by have := blc9 _ _ hw231_2; first | rwa [qd] at this | exact this) GW233.out) | (rw [qd]; exact nne9 (nlt9 (by have := blc9 _ _ hw231_2; first | rwa [qd] at this | exact this) GW233.out)) | (show (Addr.add _ _).block ≠ _; rw [qd]; exact nne9 (nlt9 (by have := blc9 _ _ hw231_2; first | rwa [qd] at this | exact this) GW233.out)) | (dsimp only; exact nne9 (nlt9 (by have := blc9 _ _ hw231_2; first | rwa [qd] at this | exact this) GW233.out))) _).trans (((qr (p := ⟨gb233, _, none⟩) (by first | exact nne9 (nlt9 (by have := blc9 _ _ hw231_2; first | rwa [qd] at this | exact this) GW233.out) | (rw [qd]; exact nne9 (nlt9 (by have := blc9 _ _ hw231_2; first | rwa [qd] at this | exact this) GW233.out)) | (show (Addr.add _ _).block ≠ _; rw [qd]; exact nne9 (nlt9 (by have := blc9 _ _ hw231_2; first | rwa [qd] at this | exact this) GW233.out)) | (dsimp only; exact nne9 (nlt9 (by have := blc9 _ _ hw231_2; first | rwa [qd] at this | exact this) GW233.out))) _).trans (((qr (p := ⟨gb233, _, none⟩) (by first | exact nne9 (nlt9 (by have := blc9 _ _ hw231_2; first | rwa [qd] at this | exact this) GW233.out) | (rw [qd]; exact nne9 (nlt9 (by have := blc9 _ _ hw231_2; first | rwa [qd] at this | exact this) GW233.out)) | (show (Addr.add _ _).block ≠ _; rw [qd]; exact nne9 (nlt9 (by have := blc9 _ _ hw231_2; first | rwa [qd] at this | exact this) GW233.out)) | (dsimp only; exact nne9 (nlt9 (by have := blc9 _ _ hw231_2; first | rwa [qd] at this | exact this) GW233.out))) _).trans (hHeld.2.2.2.2.2.2.2.2.2.2.2.2.1)))))))))), ((qr (p := ⟨gb233, _, none⟩) (by first | exact nne9 (nlt9 (by have := blc9 _ _ hw231_3; first | rwa [qd] at this | exact this) GW233.out) | (rw [qd]; exact nne9 (nlt9 (by have := blc9 _ _ hw231_3; first | rwa [qd] at this | exact this) GW233.out)) | (show (Addr.add _ _).block ≠ _; rw [qd]; exact nne9 (nlt9 (by have := blc9 _ _ hw231_3; first | rwa [qd] at this | exact this) GW233.out)) | (dsimp only; exact nne9 (nlt9 (by have := blc9 _ _ hw231_3; first | rwa [qd] at this | exact this) GW233.out))) _).trans (((qr (p := ⟨gb233, _, none⟩) (by first | exact nne9 (nlt9 (by have := blc9 _ _ hw231_3; first | rwa [qd] at this | exact this) GW233.out) | (rw [qd]; exact nne9 (nlt9 (by have := blc9 _ _ hw231_3; first | rwa [qd] at this | exact this) GW233.out)) | (show (Addr.add _ _).block ≠ _; rw [qd]; exact nne9 (nlt9 (by have := blc9 _ _ hw231_3; first | rwa [qd] at this | exact this) GW233.out)) | (dsimp only; exact nne9 (nlt9 (by have := blc9 _ _ hw231_3; first | rwa [qd] at this | exact this) GW233.out))) _).trans (((qr (p := ⟨gb233, _, none⟩) (by first | exact nne9 (nlt9 (by have := blc9 _ _ hw231_3; first | rwa [qd] at this | exact this) GW233.out) | (rw [qd]; exact nne9 (nlt9 (by have := blc9 _ _ hw231_3; first | rwa [qd] at this | exact this) GW233.out)) | (show (Addr.add _ _).block ≠ _; rw [qd]; exact nne9 (nlt9 (by have := blc9 _ _ hw231_3; first | rwa [qd] at this | exact this) GW233.out)) | (dsimp only; exact nne9 (nlt9 (by have := blc9 _ _ hw231_3; first | rwa [qd] at this | exact this) GW233.out))) _).trans (((qr (p := ⟨gb233, _, none⟩) (by first | exact nne9 (nlt9 (by have := blc9 _ _ hw231_3; first | rwa [qd] at this | exact this) GW233.out) | (rw [qd]; exact nne9 (nlt9 (by have := blc9 _ _ hw231_3; first | rwa [qd] at this | exact this) GW233.out)) | (show (Addr.add _ _).block ≠ _; rw [qd]; exact nne9 (nlt9 (by have := blc9 _ _ hw231_3; first | rwa [qd] at this | exact this) GW233.out)) | (dsimp only; exact nne9 (nlt9 (by have := blc9 _ _ hw231_3; first | rwa [qd] at this | exact this) GW233.out))) _).trans (((qr (p := ⟨gb233, _, none⟩) (by first | exact nne9 (nlt9 (by have := blc9 _ _ hw231_3; first | rwa [qd] at this | exact this) GW233.out) | (rw [qd]; exact nne9 (nlt9 (by have := blc9 _ _ hw231_3; first | rwa [qd] at this | exact this) GW233.out)) | (show (Addr.add _ _).block ≠ _; rw [qd]; exact nne9 (nlt9 (by have := blc9 _ _ hw231_3; first | rwa [qd] at this | exact this) GW233.out)) | (dsimp only; exact nne9 (nlt9 (by have := blc9 _ _ hw231_3; first | rwa [qd] at this | exact this) GW233.out))) _).trans (hHeld.2.2.2.2.2.2.2.2.2.2.2.2.2.1)))))))))), ((qr (p := ⟨gb233, _, none⟩) (by first | exact nne9 (nlt9 (by have := blc9 _ _ hw231_4; first | rwa [qd] at this | exact this) GW233.out) | (rw [qd]; exact nne9 (nlt9 (by have := blc9 _ _ hw231_4; first | rwa [qd] at this | exact this) GW233.out)) | (show (Addr.add _ _).block ≠ _; rw [qd]; exact nne9 (nlt9 (by have := blc9 _ _ hw231_4; first | rwa [qd] at this | exact this) GW233.out)) | (dsimp only; exact nne9 (nlt9 (by have := blc9 _ _ hw231_4; first | rwa [qd] at this | exact this) GW233.out))) _).trans (((qr (p := ⟨gb233, _, none⟩) (by first | exact nne9 (nlt9 (by have := blc9 _ _ hw231_4; first | rwa [qd] at this | exact this) GW233.out) | (rw [qd]; exact nne9 (nlt9 (by have := blc9 _ _ hw231_4; first | rwa [qd] at this | exact this) GW233.out)) | (show (Addr.add _ _).block ≠ _; rw [qd]; exact nne9 (nlt9 (by have := blc9 _ _ hw231_4; first | rwa [qd] at this | exact this) GW233.out)) | (dsimp only; exact nne9 (nlt9 (by have := blc9 _ _ hw231_4; first | rwa [qd] at this | exact this) GW233.out))) _).trans (((qr (p := ⟨gb233, _, none⟩) (by first | exact nne9 (nlt9 (by have := blc9 _ _ hw231_4; first | rwa [qd] at this | exact this) GW233.out) | (rw [qd]; exact nne9 (nlt9 (by have := blc9 _ _ hw231_4; first | rwa [qd] at this | exact this) GW233.out)) | (show (Addr.add _ _).block ≠ _; rw [qd]; exact nne9 (nlt9 (by have := blc9 _ _ hw231_4; first | rwa [qd] at this | exact this) GW233.out)) | (dsimp only; exact nne9 (nlt9 (by have := blc9 _ _ hw231_4; first | rwa [qd] at this | exact this) GW233.out))) _).trans (((qr (p := ⟨gb233, _, none⟩) (by first | exact nne9 (nlt9 (by have := blc9 _ _ hw231_4; first | rwa [qd] at this | exact this) GW233.out) | (rw [qd]; exact nne9 (nlt9 (by have := blc9 _ _ hw231_4; first | rwa [qd] at this | exact this) GW233.out)) | (show (Addr.add _ _).block ≠ _; rw [qd]; exact nne9 (nlt9 (by have := blc9 _ _ hw231_4; first | rwa [qd] at this | exact this) GW233.out)) | (dsimp only; exact nne9 (nlt9 (by have := blc9 _ _ hw231_4; first | rwa [qd] at this | exact this) GW233.out))) _).trans (((qr (p := ⟨gb233, _, none⟩) (by first | exact nne9 (nlt9 (by have := blc9 _ _ hw231_4; first | rwa [qd] at this | exact this) GW233.out) | (rw [qd]; exact nne9 (nlt9 (by have := blc9 _ _ hw231_4; first | rwa [qd] at this | exact this) GW233.out)) | (show (Addr.add _ _).block ≠ _; rw [qd]; exact nne9 (nlt9 (by have := blc9 _ _ hw231_4; first | rwa [qd] at this | exact this) GW233.out)) | (dsimp only; exact nne9 (nlt9 (by have := blc9 _ _ hw231_4; first | rwa [qd] at this | exact this) GW233.out))) _).trans (hHeld.2.2.2.2.2.2.2.2.2.2.2.2.2.2.1)))))))))), ((qr (p := ⟨gb233, _, none⟩) (by first | exact nne9 (nlt9 (by have := blc9 _ _ hw232_0; first | rwa [qd] at this | exact this) GW233.out) | (rw [qd]; exact nne9 (nlt9 (by have := blc9 _ _ hw232_0; first | rwa [qd] at this | exact this) GW233.out)) | (show (Addr.add _ _).block ≠ _; rw [qd]; exact nne9 (nlt9 (by have := blc9 _ _ hw232_0; first | rwa [qd] at this | exact this) GW233.out)) | (dsimp only; exact nne9 (nlt9 (by have := blc9 _ _ hw232_0; first | rwa [qd] at this | exact this) GW233.out))) _).trans (((qr (p := ⟨gb233, _, none⟩) (by first | exact nne9 (nlt9 (by have := blc9 _ _ hw232_0; first | rwa [qd] at this | exact this) GW233.out) | (rw [qd]; exact nne9 (nlt9 (by have := blc9 _ _ hw232_0; first | rwa [qd] at this | exact this) GW233.out)) | (show (Addr.add _ _).block ≠ _; rw [qd]; exact nne9 (nlt9 (by have := blc9 _ _ hw232_0; first | rwa [qd] at this | exact this) GW233.out)) | (dsimp only; exact nne9 (nlt9 (by have := blc9 _ _ hw232_0; first | rwa [qd] at this | exact this) GW233.out))) _).trans (((qr (p := ⟨gb233, _, none⟩) (by first | exact nne9 (nlt9 (by have := blc9 _ _ hw232_0; first | rwa [qd] at this | exact this) GW233.out) | (rw [qd]; exact nne9 (nlt9 (by have := blc9 _ _ hw232_0; first | rwa [qd] at this | exact this) GW233.out)) | (show (Addr.add _ _).block ≠ _; rw [qd]; exact nne9 (nlt9 (by have := blc9 _ _ hw232_0; first | rwa [qd] at this | exact this) GW233.out)) | (dsimp only; exact nne9 (nlt9 (by have := blc9 _ _ hw232_0; first | rwa [qd] at this | exact this) GW233.out))) _).trans (((qr (p := ⟨gb233, _, none⟩) (by first | exact nne9 (nlt9 (by have := blc9 _ _ hw232_0; first | rwa [qd] at this | exact this) GW233.out) | (rw [qd]; exact nne9 (nlt9 (by have := blc9 _ _ hw232_0; first | rwa [qd] at this | exact this) GW233.out)) | (show (Addr.add _ _).block ≠ _; rw [qd]; exact nne9 (nlt9 (by have := blc9 _ _ hw232_0; first | rwa [qd] at this | exact this) GW233.out)) | (dsimp only; exact nne9 (nlt9 (by have := blc9 _ _ hw232_0; first | rwa [qd] at this | exact this) GW233.out))) _).trans (((qr (p := ⟨gb233, _, none⟩) (by first | exact nne9 (nlt9 (by have := blc9 _ _ hw232_0; first | rwa [qd] at this | exact this) GW233.out) | (rw [qd]; exact nne9 (nlt9 (by have := blc9 _ _ hw232_0; first | rwa [qd] at this | exact this) GW233.out)) | (show (Addr.add _ _).block ≠ _; rw [qd]; exact nne9 (nlt9 (by have := blc9 _ _ hw232_0; first | rwa [qd] at this | exact this) GW233.out)) | (dsimp only; exact nne9 (nlt9 (by have := blc9 _ _ hw232_0; first | rwa [qd] at this | exact this) GW233.out))) _).trans (hHeld.2.2.2.2.2.2.2.2.2.2.2.2.2.2.2.1)))))))))), ((qr (p := ⟨gb233, _, none⟩) (by first | exact nne9 (nlt9 (by have := blc9 _ _ hw232_1; first | rwa [qd] at this | exact this) GW233.out) | (rw [qd]; exact nne9 (nlt9 (by have := blc9 _ _ hw232_1; first | rwa [qd] at this | exact this) GW233.out)) | (show (Addr.add _ _).block ≠ _; rw [qd]; exact nne9 (nlt9 (by have := blc9 _ _ hw232_1; first | rwa [qd] at this | exact this) GW233.out)) | (dsimp only; exact nne9 (nlt9 (by have := blc9 _ _ hw232_1; first | rwa [qd] at this | exact this) GW233.out))) _).trans (((qr (p := ⟨gb233, _, none⟩) (by first | exact nne9 (nlt9 (by have := blc9 _ _ hw232_1; first | rwa [qd] at this | exact this) GW233.out) | (rw [qd]; exact nne9 (nlt9 (by have := blc9 _ _ hw232_1; first | rwa [qd] at this | exact this) GW233.out)) | (show (Addr.add _ _).block ≠ _; rw [qd]; exact nne9 (nlt9 (by have := blc9 _ _ hw232_1; first | rwa [qd] at this | exact this) GW233.out)) | (dsimp only; exact nne9 (nlt9 (by have := blc9 _ _ hw232_1; first | rwa [qd] at this | exact this) GW233.out))) _).trans (((qr (p := ⟨gb233, _, none⟩) (by first | exact nne9 (nlt9 (by have := blc9 _ _ hw232_1; first | rwa [qd] at this | exact this) GW233.out) | (rw [qd]; exact nne9 (nlt9 (by have := blc9 _ _ hw232_1; first | rwa [qd] at this | exact this) GW233.out)) | (show (Addr.add _ _).block ≠ _; rw [qd]; exact nne9 (nlt9 (by have := blc9 _ _ hw232_1; first | rwa [qd] at this | exact this) GW233.out)) | (dsimp only; exact nne9 (nlt9 (by have := blc9 _ _ hw232_1; first | rwa [qd] at this | exact this) GW233.out))) _).trans (((qr (p := ⟨gb233, _, none⟩) (by first | exact nne9 (nlt9 (by have := blc9 _ _ hw232_1; first | rwa [qd] at this | exact this) GW233.out) | (rw [qd]; exact nne9 (nlt9 (by have := blc9 _ _ hw232_1; first | rwa [qd] at this | exact this) GW233.out)) | (show (Addr.add _ _).block ≠ _; rw [qd]; exact nne9 (nlt9 (by have := blc9 _ _ hw232_1; first | rwa [qd] at this | exact this) GW233.out)) | (dsimp only; exact nne9 (nlt9 (by have := blc9 _ _ hw232_1; first | rwa [qd] at this | exact this) GW233.out))) _).trans (((qr (p := ⟨gb233, _, none⟩) (by first | exact nne9 (nlt9 (by have := blc9 _ _ hw232_1; first | rwa [qd] at this | exact this) GW233.out) | (rw [qd]; exact nne9 (nlt9 (by have := blc9 _ _ hw232_1; first | rwa [qd] at this | exact this) GW233.out)) | (show (Addr.add _ _).block ≠ _; rw [qd]; exact nne9 (nlt9 (by have := blc9 _ _ hw232_1; first | rwa [qd] at this | exact this) GW233.out)) | (dsimp only; exact nne9 (nlt9 (by have := blc9 _ _ hw232_1; first | rwa [qd] at this | exact this) GW233.out))) _).trans (hHeld.2.2.2.2.2.2.2.2.2.2.2.2.2.2.2.2.1)))))))))), ((qr (p := ⟨gb233, _, none⟩) (by first | exact nne9 (nlt9 (by have := blc9 _ _ hw232_2; first | rwa [qd] at this | exact this) GW233.out) | (rw [qd]; exact nne9 (nlt9 (by have := blc9 _ _ hw232_2; first | rwa [qd] at this | exact this) GW233.out)) | (show (Addr.add _ _).block ≠ _; rw [qd]; exact nne9 (nlt9 (by have := blc9 _ _ hw232_2; first | rwa [qd] at this | exact this) GW233.out)) | (dsimp only; exact nne9 (nlt9 (by have := blc9 _ _ hw232_2; first | rwa [qd] at this | exact this) GW233.out))) _).trans (((qr (p := ⟨gb233, _, none⟩) (by first | exact nne9 (nlt9 (by have := blc9 _ _ hw232_2; first | rwa [qd] at this | exact this) GW233.out) | (rw [qd]; exact nne9 (nlt9 (by have := blc9 _ _ hw232_2; first | rwa [qd] at this | exact this) GW233.out)) | (show (Addr.add _ _).block ≠ _; rw [qd]; exact nne9 (nlt9 (by have := blc9 _ _ hw232_2; first | rwa [qd] at this | exact this) GW233.out)) | (dsimp only; exact nne9 (nlt9 (by have := blc9 _ _ hw232_2; first | rwa [qd] at this | exact this) GW233.out))) _).trans (((qr (p := ⟨gb233, _, none⟩) (by first | exact nne9 (nlt9 (by have := blc9 _ _ hw232_2; first | rwa [qd] at this | exact this) GW233.out) | (rw [qd]; exact nne9 (nlt9 (by have := blc9 _ _ hw232_2; first | rwa [qd] at this | exact this) GW233.out)) | (show (Addr.add _ _).block ≠ _; rw [qd]; exact nne9 (nlt9 (by have := blc9 _ _ hw232_2; first | rwa [qd] at this | exact this) GW233.out)) | (dsimp only; exact nne9 (nlt9 (by have := blc9 _ _ hw232_2; first | rwa [qd] at this | exact this) GW233.out))) _).trans (((qr (p := ⟨gb233, _, none⟩) (by first | exact nne9 (nlt9 (by have := blc9 _ _ hw232_2; first | rwa [qd] at this | exact this) GW233.out) | (rw [qd]; exact nne9 (nlt9 (by have := blc9 _ _ hw232_2; first | rwa [qd] at this | exact this) GW233.out)) | (show (Addr.add _ _).block ≠ _; rw [qd]; exact nne9 (nlt9 (by have := blc9 _ _ hw232_2; first | rwa [qd] at this | exact this) GW233.out)) | (dsimp only; exact nne9 (nlt9 (by have := blc9 _ _ hw232_2; first | rwa [qd] at this | exact this) GW233.out))) _).trans (((qr (p := ⟨gb233, _, none⟩) (by first | exact nne9 (nlt9 (by have := blc9 _ _ hw232_2; first | rwa [qd] at this | exact this) GW233.out) | (rw [qd]; exact nne9 (nlt9 (by have := blc9 _ _ hw232_2; first | rwa [qd] at this | exact this) GW233.out)) | (show (Addr.add _ _).block ≠ _; rw [qd]; exact nne9 (nlt9 (by have := blc9 _ _ hw232_2; first | rwa [qd] at this | exact this) GW233.out)) | (dsimp only; exact nne9 (nlt9 (by have := blc9 _ _ hw232_2; first | rwa [qd] at this | exact this) GW233.out))) _).trans (hHeld.2.2.2.2.2.2.2.2.2.2.2.2.2.2.2.2.2.1)))))))))), ((qr (p := ⟨gb233, _, none⟩) (by first | exact nne9 (nlt9 (by have := blc9 _ _ hw232_3; first | rwa [qd] at this | exact this) GW233.out) | (rw [qd]; exact nne9 (nlt9 (by have := blc9 _ _ hw232_3; first | rwa [qd] at this | exact this) GW233.out)) | (show (Addr.add _ _).block ≠ _; rw [qd]; exact nne9 (nlt9 (by have := blc9 _ _ hw232_3; first | rwa [qd] at this | exact this) GW233.out)) | (dsimp only; exact nne9 (nlt9 (by have := blc9 _ _ hw232_3; first | rwa [qd] at this | exact this) GW233.out))) _).trans (((qr (p := ⟨gb233, _, none⟩) (by first | exact nne9 (nlt9 (by have := blc9 _ _ hw232_3; first | rwa [qd] at this | exact this) GW233.out) | (rw [qd]; exact nne9 (nlt9 (by have := blc9 _ _ hw232_3; first | rwa [qd] at this | exact this) GW233.out)) | (show (Addr.add _ _).block ≠ _; rw [qd]; exact nne9 (nlt9 (by have := blc9 _ _ hw232_3; first | rwa [qd] at this | exact this) GW233.out)) | (dsimp only; exact nne9 (nlt9 (by have := blc9 _ _ hw232_3; first | rwa [qd] at this | exact this) GW233.out))) _).trans (((qr (p := ⟨gb233, _, none⟩) (by first | exact nne9 (nlt9 (by have := blc9 _ _ hw232_3; first | rwa [qd] at this | exact this) GW233.out) | (rw [qd]; exact nne9 (nlt9 (by have := blc9 _ _ hw232_3; first | rwa [qd] at this | exact this) GW233.out)) | (show (Addr.add _ _).block ≠ _; rw [qd]; exact nne9 (nlt9 (by have := blc9 _ _ hw232_3; first | rwa [qd] at this | exact this) GW233.out)) | (dsimp only; exact nne9 (nlt9 (by have := blc9 _ _ hw232_3; first | rwa [qd] at this | exact this) GW233.out))) _).trans (((qr (p := ⟨gb233, _, none⟩) (by first | exact nne9 (nlt9 (by have := blc9 _ _ hw232_3; first | rwa [qd] at this | exact this) GW233.out) | (rw [qd]; exact nne9 (nlt9 (by have := blc9 _ _ hw232_3; first | rwa [qd] at this | exact this) GW233.out)) | (show (Addr.add _ _).block ≠ _; rw [qd]; exact nne9 (nlt9 (by have := blc9 _ _ hw232_3; first | rwa [qd] at this | exact this) GW233.out)) | (dsimp only; exact nne9 (nlt9 (by have := blc9 _ _ hw232_3; first | rwa [qd] at this | exact this) GW233.out))) _).trans (((qr (p := ⟨gb233, _, none⟩) (by first | exact nne9 (nlt9 (by have := blc9 _ _ hw232_3; first | rwa [qd] at this | exact this) GW233.out) | (rw [qd]; exact nne9 (nlt9 (by have := blc9 _ _ hw232_3; first | rwa [qd] at this | exact this) GW233.out)) | (show (Addr.add _ _).block ≠ _; rw [qd]; exact nne9 (nlt9 (by have := blc9 _ _ hw232_3; first | rwa [qd] at this | exact this) GW233.out)) | (dsimp only; exact nne9 (nlt9 (by have := blc9 _ _ hw232_3; first | rwa [qd] at this | exact this) GW233.out))) _).trans (hHeld.2.2.2.2.2.2.2.2.2.2.2.2.2.2.2.2.2.2.1)))))))))), ((qr (p := ⟨gb233, _, none⟩) (by first | exact nne9 (nlt9 (by have := blc9 _ _ hw232_4; first | rwa [qd] at this | exact this) GW233.out) | (rw [qd]; exact nne9 (nlt9 (by have := blc9 _ _ hw232_4; first | rwa [qd] at this | exact this) GW233.out)) | (show (Addr.add _ _).block ≠ _; rw [qd]; exact nne9 (nlt9 (by have := blc9 _ _ hw232_4; first | rwa [qd] at this | exact this) GW233.out)) | (dsimp only; exact nne9 (nlt9 (by have := blc9 _ _ hw232_4; first | rwa [qd] at this | exact this) GW233.out))) _).trans (((qr (p := ⟨gb233, _, none⟩) (by first | exact nne9 (nlt9 (by have := blc9 _ _ hw232_4; first | rwa [qd] at this | exact this) GW233.out) | (rw [qd]; exact nne9 (nlt9 (by have := blc9 _ _ hw232_4; first | rwa [qd] at this | exact this) GW233.out)) | (show (Addr.add _ _).block ≠ _; rw [qd]; exact nne9 (nlt9 (by have := blc9 _ _ hw232_4; first | rwa [qd] at this | exact this) GW233.out)) | (dsimp only; exact nne9 (nlt9 (by have := blc9 _ _ hw232_4; first | rwa [qd] at this | exact this) GW233.out))) _).trans (((qr (p := ⟨gb233, _, none⟩) (by first | exact nne9 (nlt9 (by have := blc9 _ _ hw232_4; first | rwa [qd] at this | exact this) GW233.out) | (rw [qd]; exact nne9 (nlt9 (by have := blc9 _ _ hw232_4; first | rwa [qd] at this | exact this) GW233.out)) | (show (Addr.add _ _).block ≠ _; rw [qd]; exact nne9 (nlt9 (by have := blc9 _ _ hw232_4; first | rwa [qd] at this | exact this) GW233.out)) | (dsimp only; exact nne9 (nlt9 (by have := blc9 _ _ hw232_4; first | rwa [qd] at this | exact this) GW233.out))) _).trans (((qr (p := ⟨gb233, _, none⟩) (by first | exact nne9 (nlt9 (by have := blc9 _ _ hw232_4; first | rwa [qd] at this | exact this) GW233.out) | (rw [qd]; exact nne9 (nlt9 (by have := blc9 _ _ hw232_4; first | rwa [qd] at this | exact this) GW233.out)) | (show (Addr.add _ _).block ≠ _; rw [qd]; exact nne9 (nlt9 (by have := blc9 _ _ hw232_4; first | rwa [qd] at this | exact this) GW233.out)) | (dsimp only; exact nne9 (nlt9 (by have := blc9 _ _ hw232_4; first | rwa [qd] at this | exact this) GW233.out))) _).trans (((qr (p := ⟨gb233, _, none⟩) (by first | exact nne9 (nlt9 (by have := blc9 _ _ hw232_4; first | rwa [qd] at this | exact this) GW233.out) | (rw [qd]; exact nne9 (nlt9 (by have := blc9 _ _ hw232_4; first | rwa [qd] at this | exact this) GW233.out)) | (show (Addr.add _ _).block ≠ _; rw [qd]; exact nne9 (nlt9 (by have := blc9 _ _ hw232_4; first | rwa [qd] at this | exact this) GW233.out)) | (dsimp only; exact nne9 (nlt9 (by have := blc9 _ _ hw232_4; first | rwa [qd] at this | exact this) GW233.out))) _).trans (hHeld.2.2.2.2.2.2.2.2.2.2.2.2.2.2.2.2.2.2.2))))))))))⟩ (fun hHeld => ?_)
     clear hK K
     refine done_ (done_of HT_.out (by kernel_rfl)) ?_
     have hcz15_0 : w9.cell? ⟨gb233, 0, none⟩ = some (.int .i64 0) := (qb BK233.out 0).trans rfl
     have hcz15_1 : w9.cell? ⟨gb233, 1, none⟩ = some (.int .u32 0) := (qb BK233.out 1).trans rfl
     have hcz15_2 : w9.cell? ⟨gb233, 2, none⟩ = some (.int .i64 0) := (qb BK233.out 2).trans rfl
     have hcz15_3 : w9.cell? ⟨gb233, 3, none⟩ = some (.int .i64 0) := (qb BK233.out 3).trans rfl
     have hcz15_4 : w9.cell? ⟨gb233, 4, none⟩ = some (.slice none 0 0) := (qb BK233.out 4).trans rfl
     have hfz15_0 := qa BK233.out 0
     have hfz15_1 := qa BK233.out 1
     have hfz15_2 := qa BK233.out 2
     have hfz15_3 := qa BK233.out 3
     have hfz15_4 := qa BK233.out 4
     go_upto_if 39 with (fail)
     go_cut [] (fun wc => ∃ (kq : Nat) (x234002_6 : Int), Aside0 (mimesisref28_Exits.j1 kq l0 l1 x5_1 x6_1 ((qj l0 x6_1).f0) ((qj l0 x6_1).f1) x234002_6 ((qj l0 x6_1).f3) = some r) ∧ Aside0 (kq ≤ k1) ∧ Aside0 (Kd.S k64 64 wc w.heap.size (fun k_ => k_ ≠ gb233) u5 x5_1) ∧ Aside0 (wc.heap[gb233]? = some (.cells #[.int .i64 ((qj l0 x6_1).f0), .int .u32 ((qj l0 x6_1).f1), .int .i64 x234002_6, .int .i64 ((qj l0 x6_1).f3), (.slice none 0 0)] 64 (0, 0))) ∧ Aside0 (Below w.heap.size w wc))
     case first =>
      have H := HC7.out
      clear HC7
      by_cases c16 : ((qj l0 x6_1).f2) = (-1)
      ·rw [if_pos c16] at H
       have c16b0 : (((qj l0 x6_1).f2) == (-1)) = true := beq_iff_eq.mpr c16
       have c16b1 : (((qj l0 x6_1).f2) != (-1)) = false := bne_eq_false_iff_eq.mpr c16
       clear c16
       (first | rw [c16b0] | (simp only [i64_w, i32_w]; rw [c16b0]) | skip)
       have H' := Aside0.mk H
       clear H
       go_wp2
       go_meet
       case rel => exact ⟨_, ((qj l0 x6_1).f2), H', ⟨by have := HK1.out; first | omega | exact Nat.le_refl _⟩, ⟨by (with_reducible repeat (first | apply Kd.S_alloc | apply Kd.S_drewN | apply Kd.S_drew)); exact Kd.S_mono (Kd.S_far (p := ⟨gb233, 4, none⟩) (Kd.S_far (p := ⟨gb233, 3, none⟩) (Kd.S_far (p := ⟨gb233, 2, none⟩) (Kd.S_far (p := ⟨gb233, 1, none⟩) (Kd.S_far (p := ⟨gb233, 0, none⟩) (Kd.S_mono HO_5.out (fun k_ hk => (⟨hk, hk.2⟩ : _ ∧ k_ ≠ gb233))) (fun _ hk => hk.2) (.int .i64 ((qj l0 x6_1).f0))) (fun _ hk => hk.2) (.int .u32 ((qj l0 x6_1).f1))) (fun _ hk => hk.2) (.int .i64 ((qj l0 x6_1).f2))) (fun _ hk => hk.2) (.int .i64 ((qj l0 x6_1).f3))) (fun _ hk => hk.2) (.slice none 0 0)) (fun _ hk => hk.1.2)⟩, ⟨by (with_reducible repeat (first | refine qi ?_ _ | refine qk ?_ | refine qh ?_ _)); refine qv (cs := #[.int .i64 ((qj l0 x6_1).f0), .int .u32 ((qj l0 x6_1).f1), .int .i64 ((qj l0 x6_1).f2), .int .i64 ((qj l0 x6_1).f3), .slice none 0 0]) ?_ 4 _ rfl; (with_reducible repeat (first | refine qi ?_ _ | refine qk ?_ | refine qh ?_ _)); refine qv (cs := #[.int .i64 ((qj l0 x6_1).f0), .int .u32 ((qj l0 x6_1).f1), .int .i64 ((qj l0 x6_1).f2), .int .i64 0, .slice none 0 0]) ?_ 3 _ rfl; (with_reducible repeat (first | refine qi ?_ _ | refine qk ?_ | refine qh ?_ _)); refine qv (cs := #[.int .i64 ((qj l0 x6_1).f0), .int .u32 ((qj l0 x6_1).f1), .int .i64 0, .int .i64 0, .slice none 0 0]) ?_ 2 _ rfl; (with_reducible repeat (first | refine qi ?_ _ | refine qk ?_ | refine qh ?_ _)); refine qv (cs := #[.int .i64 ((qj l0 x6_1).f0), .int .u32 0, .int .i64 0, .int .i64 0, .slice none 0 0]) ?_ 1 _ rfl; (with_reducible repeat (first | refine qi ?_ _ | refine qk ?_ | refine qh ?_ _)); refine qv (cs := #[.int .i64 0, .int .u32 0, .int .i64 0, .int .i64 0, .slice none 0 0]) ?_ 0 _ rfl; (with_reducible repeat (first | refine qi ?_ _ | refine qk ?_ | refine qh ?_ _)); exact BK233.out⟩, ⟨by repeat (first | (with_reducible first | exact HB.out | apply qf | apply qc | apply qe | refine qg ?_ GE233.out) | exact HB.out)⟩⟩
      ·rw [if_neg c16] at H
       have c16b0 : (((qj l0 x6_1).f2) == (-1)) = false := beq_eq_false_iff_ne.mpr c16
       have c16b1 : (((qj l0 x6_1).f2) != (-1)) = true := bne_iff_ne.mpr c16
       (first | rw [c16b0] | (simp only [i64_w, i32_w]; rw [c16b0]) | skip)
       by_cases c17 : 0 ≤ ((qj l0 x6_1).f2)
       ·rw [if_pos c17] at H
        have c17b0 : decide (0 ≤ ((qj l0 x6_1).f2)) = true := decide_eq_true c17
        clear c17
        by_cases c18 : ((qj l0 x6_1).f2) < (l1.length : Int)
        ·rw [if_pos c18] at H
         have c18b0 : decide (((qj l0 x6_1).f2) < (l1.length : Int)) = true := decide_eq_true c18
         clear c18
         have H' := Aside0.mk H
         clear H
         have hcz19_0 : w9.cell? ⟨gb233, 0, none⟩ = some (.int .i64 0) := (qb BK233.out 0).trans rfl
         have hcz19_1 : w9.cell? ⟨gb233, 1, none⟩ = some (.int .u32 0) := (qb BK233.out 1).trans rfl
         have hcz19_2 : w9.cell? ⟨gb233, 2, none⟩ = some (.int .i64 0) := (qb BK233.out 2).trans rfl
         have hcz19_3 : w9.cell? ⟨gb233, 3, none⟩ = some (.int .i64 0) := (qb BK233.out 3).trans rfl
         have hcz19_4 : w9.cell? ⟨gb233, 4, none⟩ = some (.slice none 0 0) := (qb BK233.out 4).trans rfl
         have hfz19_0 := qa BK233.out 0
         have hfz19_1 := qa BK233.out 1
         have hfz19_2 := qa BK233.out 2
         have hfz19_3 := qa BK233.out 3
         have hfz19_4 := qa BK233.out 4
         have p234 : 0 ≤ (((qj l0 x6_1).f2) : Int) := of_decide_eq_true (by assumption)
         have q234 : ((qj l0 x6_1).f2) < (l1.length : Int) := of_decide_eq_true (by assumption)
         obtain ⟨ad234, e234, hx234_0⟩ := Kd.at_int HR1.out ((qj l0 x6_1).f2) p234 q234
         cases e234
         have hn234_0 : ad234.block ≠ gb233 := nne9 (nlt9 (by have := blc9 _ _ hx234_0; first | rwa [qd] at this | exact this) GW233.out)
         have hn234_1 : ad234.block ≠ gb233 := nne9 (nlt9 (by have := blc9 _ _ hx234_0; first | rwa [qd] at this | exact this) GW233.out)
         have hn234_2 : ad234.block ≠ gb233 := nne9 (nlt9 (by have := blc9 _ _ hx234_0; first | rwa [qd] at this | exact this) GW233.out)
         have hn234_3 : ad234.block ≠ gb233 := nne9 (nlt9 (by have := blc9 _ _ hx234_0; first | rwa [qd] at this | exact this) GW233.out)
         have hn234_4 : ad234.block ≠ gb233 := nne9 (nlt9 (by have := blc9 _ _ hx234_0; first | rwa [qd] at this | exact this) GW233.out)
         replace hx234_0 := (HB.out.cell (blc9 w _ hx234_0)).trans hx234_0
         replace hx234_0 := (qr (p := ⟨gb233, 0, none⟩) (by first | (rw [qd]; exact hn234_0) | (show (Addr.add _ _).block ≠ _; rw [qd]; exact hn234_0) | exact hn234_0) (.int .i64 ((qj l0 x6_1).f0))).trans hx234_0
         replace hx234_0 := (qr (p := ⟨gb233, 1, none⟩) (by first | (rw [qd]; exact hn234_1) | (show (Addr.add _ _).block ≠ _; rw [qd]; exact hn234_1) | exact hn234_1) (.int .u32 ((qj l0 x6_1).f1))).trans hx234_0
         replace hx234_0 := (qr (p := ⟨gb233, 2, none⟩) (by first | (rw [qd]; exact hn234_2) | (show (Addr.add _ _).block ≠ _; rw [qd]; exact hn234_2) | exact hn234_2) (.int .i64 ((qj l0 x6_1).f2))).trans hx234_0
         replace hx234_0 := (qr (p := ⟨gb233, 3, none⟩) (by first | (rw [qd]; exact hn234_3) | (show (Addr.add _ _).block ≠ _; rw [qd]; exact hn234_3) | exact hn234_3) (.int .i64 ((qj l0 x6_1).f3))).trans hx234_0
         replace hx234_0 := (qr (p := ⟨gb233, 4, none⟩) (by first | (rw [qd]; exact hn234_4) | (show (Addr.add _ _).block ≠ _; rw [qd]; exact hn234_4) | exact hn234_4) (.slice none 0 0)).trans hx234_0
         clear hn234_0
         clear hn234_1
         clear hn234_2
         clear hn234_3
         clear hn234_4
         replace p234 := eq_true p234
         replace q234 := eq_true q234
         go_wp2
         go_meet
         case rel => exact ⟨_, (rd l1 ((qj l0 x6_1).f2)), H', ⟨by have := HK1.out; first | omega | exact Nat.le_refl _⟩, ⟨by (with_reducible repeat (first | apply Kd.S_alloc | apply Kd.S_drewN | apply Kd.S_drew)); exact Kd.S_mono (Kd.S_far (p := ⟨gb233, 2, none⟩) (Kd.S_far (p := ⟨gb233, 4, none⟩) (Kd.S_far (p := ⟨gb233, 3, none⟩) (Kd.S_far (p := ⟨gb233, 2, none⟩) (Kd.S_far (p := ⟨gb233, 1, none⟩) (Kd.S_far (p := ⟨gb233, 0, none⟩) (Kd.S_mono HO_5.out (fun k_ hk => (⟨hk, hk.2⟩ : _ ∧ k_ ≠ gb233))) (fun _ hk => hk.2) (.int .i64 ((qj l0 x6_1).f0))) (fun _ hk => hk.2) (.int .u32 ((qj l0 x6_1).f1))) (fun _ hk => hk.2) (.int .i64 ((qj l0 x6_1).f2))) (fun _ hk => hk.2) (.int .i64 ((qj l0 x6_1).f3))) (fun _ hk => hk.2) (.slice none 0 0)) (fun _ hk => hk.2) (.int .i64 (rd l1 ((qj l0 x6_1).f2)))) (fun _ hk => hk.1.2)⟩, ⟨by (with_reducible repeat (first | refine qi ?_ _ | refine qk ?_ | refine qh ?_ _)); refine qv (cs := #[.int .i64 ((qj l0 x6_1).f0), .int .u32 ((qj l0 x6_1).f1), .int .i64 ((qj l0 x6_1).f2), .int .i64 ((qj l0 x6_1).f3), .slice none 0 0]) ?_ 2 _ rfl; (with_reducible repeat (first | refine qi ?_ _ | refine qk ?_ | refine qh ?_ _)); refine qv (cs := #[.int .i64 ((qj l0 x6_1).f0), .int .u32 ((qj l0 x6_1).f1), .int .i64 ((qj l0 x6_1).f2), .int .i64 ((qj l0 x6_1).f3), .slice none 0 0]) ?_ 4 _ rfl; (with_reducible repeat (first | refine qi ?_ _ | refine qk ?_ | refine qh ?_ _)); refine qv (cs := #[.int .i64 ((qj l0 x6_1).f0), .int .u32 ((qj l0 x6_1).f1), .int .i64 ((qj l0 x6_1).f2), .int .i64 0, .slice none 0 0]) ?_ 3 _ rfl; (with_reducible repeat (first | refine qi ?_ _ | refine qk ?_ | refine qh ?_ _)); refine qv (cs := #[.int .i64 ((qj l0 x6_1).f0), .int .u32 ((qj l0 x6_1).f1), .int .i64 0, .int .i64 0, .slice none 0 0]) ?_ 2 _ rfl; (with_reducible repeat (first | refine qi ?_ _ | refine qk ?_ | refine qh ?_ _)); refine qv (cs := #[.int .i64 ((qj l0 x6_1).f0), .int .u32 0, .int .i64 0, .int .i64 0, .slice none 0 0]) ?_ 1 _ rfl; (with_reducible repeat (first | refine qi ?_ _ | refine qk ?_ | refine qh ?_ _)); refine qv (cs := #[.int .i64 0, .int .u32 0, .int .i64 0, .int .i64 0, .slice none 0 0]) ?_ 0 _ rfl; (with_reducible repeat (first | refine qi ?_ _ | refine qk ?_ | refine qh ?_ _)); exact BK233.out⟩, ⟨by repeat (first | (with_reducible first | exact HB.out | apply qf | apply qc | apply qe | refine qg ?_ GE233.out) | exact HB.out)⟩⟩
        ·rw [if_neg c18] at H
         exact absurd H (by simp)
       ·rw [if_neg c17] at H
        exact absurd H (by simp)
     case rest =>
      clear HC7
      try clear c1
      try clear c2
      try clear p2
      try clear q2
      try clear hx2
      try clear c5
      try clear c5b0
      try clear c6
      try clear c6b0
      try clear c16
      try clear c16b0
      try clear c16b1
      try clear c17
      try clear c17b0
      try clear c18
      try clear c18b0
      try clear hcz15_0
      try clear hcz15_1
      try clear hcz15_2
      try clear hcz15_3
      try clear hcz15_4
      try clear hcz19_0
      try clear hcz19_1
      try clear hcz19_2
      try clear hcz19_3
      try clear hcz19_4
      try clear hfz15_0
      try clear hfz15_1
      try clear hfz15_2
      try clear hfz15_3
      try clear hfz15_4
      try clear hfz19_0
      try clear hfz19_1
      try clear hfz19_2
      try clear hfz19_3
      try clear hfz19_4
      try clear hx229_0
      try clear hx229_1
      try clear hx229_2
      try clear hx229_3
      try clear hx229_4
      try clear hx230_0
      try clear hx230_1
      try clear hx230_2
      try clear hx230_3
      try clear hx230_4
      try clear hx231_0
      try clear hx231_1
      try clear hx231_2
      try clear hx231_3
      try clear hx231_4
      try clear hx232_0
      try clear hx232_1
      try clear hx232_2
      try clear hx232_3
      try clear hx232_4
      try clear hx234_0
      try clear p2
      try clear p229
      try clear p230
      try clear p231
      try clear p232
      try clear p234
      try clear q229
      try clear q230
      try clear q231
      try clear q232
      try clear q234
      obtain ⟨kq, x234002_6, HA, HJ6, HO_5, BK233, HB⟩ := hcut
      cases kq with
      | zero => exact absurd HA.out (by simp [mimesisref28_Exits.j1])
      | succ kj6 =>
       have H := HA.out
       clear HA
       simp only [mimesisref28_Exits.j1] at H
       have H' := Aside0.mk H
       clear H
       go_wp2
       go_loopg [8] kj6 (fun kq v8 w' => ∃ (x8_3 : Int) (x234004_3 : List (S84)) (u234004 : Value), v8 = .int .i64 x8_3 ∧ Aside0 (mimesisref28_Exits.l1 kq l0 l1 x5_1 x6_1 x8_3 ((qj l0 x6_1).f0) ((qj l0 x6_1).f1) x234002_6 ((qj l0 x6_1).f3) x234004_3 = some r) ∧ Aside0 (kq ≤ kj6) ∧ Aside0 (Kd.S k64 64 w' w.heap.size (fun k_ => some k_ ≠ (u234004 : Value).ownBlock ∧ k_ ≠ gb233) u5 x5_1) ∧ Aside0 (Kd.R k84 84 w' w.heap.size (fun _ => True) u234004 x234004_3) ∧ Aside0 (w'.heap[gb233]? = some (.cells #[.int .i64 ((qj l0 x6_1).f0), .int .u32 ((qj l0 x6_1).f1), .int .i64 x234002_6, .int .i64 ((qj l0 x6_1).f3), u234004] 64 (0, 0))) ∧ Aside0 (Below w.heap.size w w'))
       case atStart => exact ⟨(0), (([] : List (S84))), (.slice none 0 0), (by first | rfl | (simp; done) | (simp [*]; done)), H', ⟨Nat.le_refl _⟩, ⟨by (with_reducible repeat (first | apply Kd.S_alloc | apply Kd.S_drewN | apply Kd.S_drew)); exact Kd.S_mono HO_5.out (fun _ hk => ⟨(by simp [Value.ownBlock]), hk⟩)⟩, ⟨by first | exact Kd.R_nil _ _ _ _ _ | exact Kd.N_nil _ _ _ _ _ | exact Kd.V_nil _ _ _ _ _ | exact Kd.Q_nil _ _ _ _ _ | exact Kd.S_nil _ _ _ _ _⟩, ⟨by (with_reducible repeat (first | refine qi ?_ _ | refine qk ?_ | refine qh ?_ _)); exact BK233.out⟩, ⟨by repeat (first | (with_reducible first | exact HB.out | apply qf | apply qc | apply qe | refine qg ?_ GE233.out) | exact HB.out)⟩⟩
       case round =>
        clear H'
        try clear c1
        try clear c2
        try clear p2
        try clear q2
        try clear hx2
        try clear c5
        try clear c5b0
        try clear c6
        try clear c6b0
        try clear c16
        try clear c16b0
        try clear c16b1
        try clear c17
        try clear c17b0
        try clear c18
        try clear c18b0
        try clear hcz15_0
        try clear hcz15_1
        try clear hcz15_2
        try clear hcz15_3
        try clear hcz15_4
        try clear hcz19_0
        try clear hcz19_1
        try clear hcz19_2
        try clear hcz19_3
        try clear hcz19_4
        try clear hfz15_0
        try clear hfz15_1
        try clear hfz15_2
        try clear hfz15_3
        try clear hfz15_4
        try clear hfz19_0
        try clear hfz19_1
        try clear hfz19_2
        try clear hfz19_3
        try clear hfz19_4
        try clear hx229_0
        try clear hx229_1
        try clear hx229_2
        try clear hx229_3
        try clear hx229_4
        try clear hx230_0
        try clear hx230_1
        try clear hx230_2
        try clear hx230_3
        try clear hx230_4
        try clear hx231_0
        try clear hx231_1
        try clear hx231_2
        try clear hx231_3
        try clear hx231_4
        try clear hx232_0
        try clear hx232_1
        try clear hx232_2
        try clear hx232_3
        try clear hx232_4
        try clear hx234_0
        try clear p2
        try clear p229
        try clear p230
        try clear p231
        try clear p232
        try clear p234
        try clear q2
        try clear q229
        try clear q230
        try clear q231
        try clear q232
        try clear q234
        obtain ⟨x8_3, x234004_3, u234004, rfl, HA, HK3, HO_5, HO_234004, BK233, HB⟩ := hrel
        cases gk with
        | zero => exact absurd HA.out (by simp [mimesisref28_Exits.l1])
        | succ k3 =>
         have H := HA.out
         clear HA
         simp only [mimesisref28_Exits.l1] at H
         by_cases c20 : 0 ≤ x6_1
         ·rw [if_pos c20] at H
          have c20b0 : decide (0 ≤ x6_1) = true := decide_eq_true c20
          clear c20
          by_cases c21 : x6_1 < (l0.length : Int)
          ·rw [if_pos c21] at H
           have c21b0 : decide (x6_1 < (l0.length : Int)) = true := decide_eq_true c21
           clear c21
           by_cases c22 : x8_3 < (((qj l0 x6_1).f4).length : Int)
           ·rw [if_pos c22] at H
            have c22b0 : decide (x8_3 < (((qj l0 x6_1).f4).length : Int)) = true := decide_eq_true c22
            clear c22
            by_cases c23 : 0 ≤ x8_3
            ·rw [if_pos c23] at H
             have c23b0 : decide (0 ≤ x8_3) = true := decide_eq_true c23
             clear c23
             by_cases c24 : 0 ≤ ((qD ((qj l0 x6_1).f4) x8_3).f1)
             ·rw [if_pos c24] at H
              have c24b0 : decide (0 ≤ ((qD ((qj l0 x6_1).f4) x8_3).f1)) = true := decide_eq_true c24
              clear c24
              by_cases c25 : ((qD ((qj l0 x6_1).f4) x8_3).f1) < (l1.length : Int)
              ·rw [if_pos c25] at H
               have c25b0 : decide (((qD ((qj l0 x6_1).f4) x8_3).f1) < (l1.length : Int)) = true := decide_eq_true c25
               clear c25
               by_cases c26 : x234004_3.length < 8796093022208
               ·rw [if_pos c26] at H
                have LMc26 := Aside0.mk c26
                clear c26
                obtain ⟨y241, hy241⟩ : ∃ y_ : List (S84), y_ = (x234004_3 ++ [(⟨(qD ((qj l0 x6_1).f4) x8_3).f0, rd l1 ((qD ((qj l0 x6_1).f4) x8_3).f1)⟩ : S84)]) := ⟨_, rfl⟩
                replace H : (mimesisref28_Exits.l1 k3 l0 l1 x5_1 x6_1 (wrap64 (x8_3 + 1)) ((qj l0 x6_1).f0) ((qj l0 x6_1).f1) x234002_6 ((qj l0 x6_1).f3) y241) = some r := by first | (rw [hy241]; with_reducible exact H) | (have H2_ := (Option.bind_some _ _).symm.trans H; rw [hy241]; with_reducible exact H2_) | (have H2_ := (Option.bind_some _ _).symm.trans H; with_reducible exact H2_) | with_reducible exact H | (rw [hy241]; exact H) | exact H
                have Ny241 := Aside0.mk hy241
                clear hy241
                have H' := Aside0.mk H
                clear H
                have p235 : 0 ≤ (x6_1 : Int) := of_decide_eq_true (by assumption)
                have q235 : x6_1 < (l0.length : Int) := of_decide_eq_true (by assumption)
                obtain ⟨ad235, A235_4, c235_4, e235, hx235_0, hx235_1, hx235_2, hx235_3, hx235_4, hl235_4, hi235_4⟩ := at_T64 HR0.out x6_1 p235 q235
                obtain rfl : ad229 = ad235 := (by injection e235)
                replace hx235_0 := (HB.out.cell (blc9 w _ hx235_0)).trans hx235_0
                replace hx235_1 := (HB.out.cell (blc9 w _ hx235_1)).trans hx235_1
                replace hx235_2 := (HB.out.cell (blc9 w _ hx235_2)).trans hx235_2
                replace hx235_3 := (HB.out.cell (blc9 w _ hx235_3)).trans hx235_3
                replace hx235_4 := (HB.out.cell (blc9 w _ hx235_4)).trans hx235_4
                have HR235_4 := Aside0.mk hi235_4
                have HC235_4 := Aside0.mk hl235_4
                clear hi235_4 hl235_4
                replace p235 := eq_true p235
                replace q235 := eq_true q235
                try go_wp2
                have n0_ := Aside0.mk (Kd.S_drew HO_5.out)
                have n1_ := Aside0.mk (Kd.R_drew HO_234004.out)
                have n2_ := Aside0.mk (qk BK233.out)
                have n3_ := Aside0.mk (qe HB.out)
                clear HO_5
                clear HO_234004
                clear BK233
                clear HB
                have HO_5 := n0_
                have HO_234004 := n1_
                have BK233 := n2_
                have HB := n3_
                clear n0_ n1_ n2_ n3_
                have p236 : 0 ≤ (x6_1 : Int) := of_decide_eq_true (by assumption)
                have q236 : x6_1 < (l0.length : Int) := of_decide_eq_true (by assumption)
                obtain ⟨ad236, A236_4, c236_4, e236, hx236_0, hx236_1, hx236_2, hx236_3, hx236_4, hl236_4, hi236_4⟩ := at_T64 HR0.out x6_1 p236 q236
                have hw236_4 := hx236_4
                have hw236_3 := hx236_3
                have hw236_2 := hx236_2
                have hw236_1 := hx236_1
                have hw236_0 := hx236_0
                obtain rfl : ad229 = ad236 := (by injection e236)
                replace hx236_0 := (HB.out.cell (blc9 w _ hx236_0)).trans hx236_0
                replace hx236_1 := (HB.out.cell (blc9 w _ hx236_1)).trans hx236_1
                replace hx236_2 := (HB.out.cell (blc9 w _ hx236_2)).trans hx236_2
                replace hx236_3 := (HB.out.cell (blc9 w _ hx236_3)).trans hx236_3
                replace hx236_4 := (HB.out.cell (blc9 w _ hx236_4)).trans hx236_4
                have HR236_4 := Aside0.mk hi236_4
                have HC236_4 := Aside0.mk hl236_4
                clear hi236_4 hl236_4
                replace p236 := eq_true p236
                replace q236 := eq_true q236
                have p237 : 0 ≤ (x8_3 : Int) := of_decide_eq_true (by assumption)
                have q237 : x8_3 < (((qj l0 x6_1).f4).length : Int) := of_decide_eq_true (by assumption)
                obtain ⟨ad237, e237, hx237_0, hx237_1⟩ := at_T84 HR236_4.out x8_3 p237 q237
                have hw237_1 := hx237_1
                have hw237_0 := hx237_0
                cases e237
                replace hx237_0 := (HB.out.cell (blc9 w _ hx237_0)).trans hx237_0
                replace hx237_1 := (HB.out.cell (blc9 w _ hx237_1)).trans hx237_1
                replace p237 := eq_true p237
                replace q237 := eq_true q237
                have p238 : 0 ≤ (x6_1 : Int) := of_decide_eq_true (by assumption)
                have q238 : x6_1 < (l0.length : Int) := of_decide_eq_true (by assumption)
                obtain ⟨ad238, A238_4, c238_4, e238, hx238_0, hx238_1, hx238_2, hx238_3, hx238_4, hl238_4, hi238_4⟩ := at_T64 HR0.out x6_1 p238 q238
                have hw238_4 := hx238_4
                have hw238_3 := hx238_3
                have hw238_2 := hx238_2
                have hw238_1 := hx238_1
                have hw238_0 := hx238_0
                obtain rfl : ad229 = ad238 := (by injection e238)
                replace hx238_0 := (HB.out.cell (blc9 w _ hx238_0)).trans hx238_0
                replace hx238_1 := (HB.out.cell (blc9 w _ hx238_1)).trans hx238_1
                replace hx238_2 := (HB.out.cell (blc9 w _ hx238_2)).trans hx238_2
                replace hx238_3 := (HB.out.cell (blc9 w _ hx238_3)).trans hx238_3
                replace hx238_4 := (HB.out.cell (blc9 w _ hx238_4)).trans hx238_4
                have HR238_4 := Aside0.mk hi238_4
                have HC238_4 := Aside0.mk hl238_4
                clear hi238_4 hl238_4
                replace p238 := eq_true p238
                replace q238 := eq_true q238
                have ea_ := Option.some.inj (hx236_4.symm.trans hx238_4)
                injection ea_ with ea_ en_ ec_
                subst ea_
                subst ec_
                clear en_
                have p239 : 0 ≤ (x8_3 : Int) := of_decide_eq_true (by assumption)
                have q239 : x8_3 < (((qj l0 x6_1).f4).length : Int) := of_decide_eq_true (by assumption)
                obtain ⟨ad239, e239, hx239_0, hx239_1⟩ := at_T84 HR238_4.out x8_3 p239 q239
                have hw239_1 := hx239_1
                have hw239_0 := hx239_0
                cases e239
                replace hx239_0 := (HB.out.cell (blc9 w _ hx239_0)).trans hx239_0
                replace hx239_1 := (HB.out.cell (blc9 w _ hx239_1)).trans hx239_1
                replace p239 := eq_true p239
                replace q239 := eq_true q239
                have p240 : 0 ≤ (((qD ((qj l0 x6_1).f4) x8_3).f1) : Int) := of_decide_eq_true (by assumption)
                have q240 : ((qD ((qj l0 x6_1).f4) x8_3).f1) < (l1.length : Int) := of_decide_eq_true (by assumption)
                obtain ⟨ad240, e240, hx240_0⟩ := Kd.at_int HR1.out ((qD ((qj l0 x6_1).f4) x8_3).f1) p240 q240
                have hw240_0 := hx240_0
                cases e240
                replace hx240_0 := (HB.out.cell (blc9 w _ hx240_0)).trans hx240_0
                replace p240 := eq_true p240
                replace q240 := eq_true q240
                refine start_ (n := 28) (S := fun w' => w'.cell? ⟨gb233, 0, none⟩ = some (.int .i64 ((qj l0 x6_1).f0)) ∧ w'.cell? ⟨gb233, 1, none⟩ = some (.int .u32 ((qj l0 x6_1).f1)) ∧ w'.cell? ⟨gb233, 2, none⟩ = some (.int .i64 x234002_6) ∧ w'.cell? ⟨gb233, 3, none⟩ = some (.int .i64 ((qj l0 x6_1).f3)) ∧ w'.cell? ⟨gb233, 4, none⟩ = some (u234004) ∧ w'.cell? (ad229.add ((x6_1).toNat * 5)) = some (.int .i64 ((qj l0 x6_1).f0)) ∧ w'.cell? ⟨(ad229.add ((x6_1).toNat * 5)).block, (ad229.add ((x6_1).toNat * 5)).off + 1, none⟩ = some (.int .u32 ((qj l0 x6_1).f1)) ∧ w'.cell? ⟨(ad229.add ((x6_1).toNat * 5)).block, (ad229.add ((x6_1).toNat * 5)).off + 2, none⟩ = some (.int .i64 ((qj l0 x6_1).f2)) ∧ w'.cell? ⟨(ad229.add ((x6_1).toNat * 5)).block, (ad229.add ((x6_1).toNat * 5)).off + 3, none⟩ = some (.int .i64 ((qj l0 x6_1).f3)) ∧ w'.cell? ⟨(ad229.add ((x6_1).toNat * 5)).block, (ad229.add ((x6_1).toNat * 5)).off + 4, none⟩ = some (.slice (some ad237) ((qj l0 x6_1).f4).length c236_4) ∧ w'.cell? (ad237.add ((x8_3).toNat * 2)) = some (.int .i64 ((qD ((qj l0 x6_1).f4) x8_3).f0)) ∧ w'.cell? ⟨(ad237.add ((x8_3).toNat * 2)).block, (ad237.add ((x8_3).toNat * 2)).off + 1, none⟩ = some (.int .i64 ((qD ((qj l0 x6_1).f4) x8_3).f1)) ∧ w'.cell? (ad229.add ((x6_1).toNat * 5)) = some (.int .i64 ((qj l0 x6_1).f0)) ∧ w'.cell? ⟨(ad229.add ((x6_1).toNat * 5)).block, (ad229.add ((x6_1).toNat * 5)).off + 1, none⟩ = some (.int .u32 ((qj l0 x6_1).f1)) ∧ w'.cell? ⟨(ad229.add ((x6_1).toNat * 5)).block, (ad229.add ((x6_1).toNat * 5)).off + 2, none⟩ = some (.int .i64 ((qj l0 x6_1).f2)) ∧ w'.cell? ⟨(ad229.add ((x6_1).toNat * 5)).block, (ad229.add ((x6_1).toNat * 5)).off + 3, none⟩ = some (.int .i64 ((qj l0 x6_1).f3)) ∧ w'.cell? ⟨(ad229.add ((x6_1).toNat * 5)).block, (ad229.add ((x6_1).toNat * 5)).off + 4, none⟩ = some (.slice (some ad237) ((qj l0 x6_1).f4).length c236_4) ∧ w'.cell? (ad237.add ((x8_3).toNat * 2)) = some (.int .i64 ((qD ((qj l0 x6_1).f4) x8_3).f0)) ∧ w'.cell? ⟨(ad237.add ((x8_3).toNat * 2)).block, (ad237.add ((x8_3).toNat * 2)).off + 1, none⟩ = some (.int .i64 ((qD ((qj l0 x6_1).f4) x8_3).f1)) ∧ w'.cell? (ad240.add (((qD ((qj l0 x6_1).f4) x8_3).f1)).toNat) = some (.int .i64 (rd l1 ((qD ((qj l0 x6_1).f4) x8_3).f1)))) (ds := [27]) #[false, false, false, false, false, false, false, false, false, false, false, false, false, false, false, false, false, false, false, false, false, false, false, false, false, false, false, false] (by kernel_rfl) rfl rfl ⟨(qb BK233.out 0).trans rfl, (qb BK233.out 1).trans rfl, (qb BK233.out 2).trans rfl, (qb BK233.out 3).trans rfl, (qb BK233.out 4).trans rfl, ((HB.out.cell (blc9 w _ hw236_0)).trans hw236_0), ((HB.out.cell (blc9 w _ hw236_1)).trans hw236_1), ((HB.out.cell (blc9 w _ hw236_2)).trans hw236_2), ((HB.out.cell (blc9 w _ hw236_3)).trans hw236_3), ((HB.out.cell (blc9 w _ hw236_4)).trans hw236_4), ((HB.out.cell (blc9 w _ hw237_0)).trans hw237_0), ((HB.out.cell (blc9 w _ hw237_1)).trans hw237_1), ((HB.out.cell (blc9 w _ hw238_0)).trans hw238_0), ((HB.out.cell (blc9 w _ hw238_1)).trans hw238_1), ((HB.out.cell (blc9 w _ hw238_2)).trans hw238_2), ((HB.out.cell (blc9 w _ hw238_3)).trans hw238_3), ((HB.out.cell (blc9 w _ hw238_4)).trans hw238_4), ((HB.out.cell (blc9 w _ hw239_0)).trans hw239_0), ((HB.out.cell (blc9 w _ hw239_1)).trans hw239_1), ((HB.out.cell (blc9 w _ hw240_0)).trans hw240_0)⟩ (fun hHeld => ?_); refine with_tabW mimesisref28_Exits.tab11 mimesisref28_Exits.bits11 (fun HT_ HW_ => ?_)
                generalize wr.drew = w27 at HO_5 HO_234004 BK233 HB HR236_4 HR238_4 hx236_0 hx236_1 hx236_2 hx236_3 hx236_4 hx237_0 hx237_1 hx238_0 hx238_1 hx238_2 hx238_3 hx238_4 hx239_0 hx239_1 hx240_0 hHeld ⊢
                refine pure_ (i := 0) (N := some 56) (v := ?_) (a' := ?_) #[true, false, false, false, false, false, false, false, false, false, false, false, false, false, false, false, false, false, false, false, false, false, false, false, false, false, false, false] rfl rfl (qB HT_.out (by kernel_rfl)) (fun _ _ _ h => h) (Or.inl ⟨by rfl, ?_⟩) ?_ ?_
                rotate_left
                ·intro w'
                 go_simp
                 with_reducible rfl
                rotate_left
                ·simp only [Act.put, List.setIfInBounds_toArray, List.set_cons_zero, List.set_cons_succ, i64_w, i32_w]
                 rfl
                refine pure_ (i := 2) (N := some 58) (v := ?_) (a' := ?_) #[true, false, true, false, false, false, false, false, false, false, false, false, false, false, false, false, false, false, false, false, false, false, false, false, false, false, false, false] rfl rfl (qB HT_.out (by kernel_rfl)) (fun _ _ _ h => h) (Or.inl ⟨by rfl, ?_⟩) ?_ ?_
                rotate_left
                ·intro w'
                 go_simp
                 with_reducible rfl
                rotate_left
                ·simp only [Act.put, List.setIfInBounds_toArray, List.set_cons_zero, List.set_cons_succ, i64_w, i32_w]
                 rfl
                refine pure_ (i := 3) (N := some 59) (v := ?_) (a' := ?_) #[true, false, true, true, false, false, false, false, false, false, false, false, false, false, false, false, false, false, false, false, false, false, false, false, false, false, false, false] rfl rfl (qB HT_.out (by kernel_rfl)) (fun _ _ _ h => h) (Or.inl ⟨by rfl, ?_⟩) ?_ ?_
                rotate_left
                ·intro w'
                 go_simp
                 with_reducible rfl
                rotate_left
                ·simp only [Act.put, List.setIfInBounds_toArray, List.set_cons_zero, List.set_cons_succ, i64_w, i32_w]
                 rfl
                refine pure_ (i := 4) (N := some 60) (v := ?_) (a' := ?_) #[true, false, true, true, true, false, false, false, false, false, false, false, false, false, false, false, false, false, false, false, false, false, false, false, false, false, false, false] rfl rfl (qB HT_.out (by kernel_rfl)) (fun _ _ _ h => h) (Or.inl ⟨by rfl, ?_⟩) ?_ ?_
                rotate_left
                ·intro w'
                 go_simp
                 with_reducible rfl
                rotate_left
                ·simp only [Act.put, List.setIfInBounds_toArray, List.set_cons_zero, List.set_cons_succ, i64_w, i32_w]
                 rfl
                refine pure_ (i := 5) (N := some 61) (v := ?_) (a' := ?_) #[true, false, true, true, true, true, false, false, false, false, false, false, false, false, false, false, false, false, false, false, false, false, false, false, false, false, false, false] rfl rfl (qB HT_.out (by kernel_rfl)) (fun _ _ _ h => h) (Or.inl ⟨by rfl, ?_⟩) ?_ ?_
                rotate_left
                ·intro w'
                 go_simp
                 with_reducible rfl
                rotate_left
                ·simp only [Act.put, List.setIfInBounds_toArray, List.set_cons_zero, List.set_cons_succ, i64_w, i32_w]
                 rfl
                refine pure_ (i := 7) (N := some 63) (v := ?_) (a' := ?_) #[true, false, true, true, true, true, false, true, false, false, false, false, false, false, false, false, false, false, false, false, false, false, false, false, false, false, false, false] rfl rfl (qB HT_.out (by kernel_rfl)) (fun _ _ _ h => h) (Or.inl ⟨by rfl, ?_⟩) ?_ ?_
                rotate_left
                ·intro w'
                 go_simp
                 with_reducible rfl
                rotate_left
                ·simp only [Act.put, List.setIfInBounds_toArray, List.set_cons_zero, List.set_cons_succ, i64_w, i32_w]
                 rfl
                refine pure_ (i := 11) (N := some 67) (v := ?_) (a' := ?_) #[true, false, true, true, true, true, false, true, false, false, false, true, false, false, false, false, false, false, false, false, false, false, false, false, false, false, false, false] rfl rfl (qB HT_.out (by kernel_rfl)) (fun _ _ _ h => h) (Or.inl ⟨by rfl, ?_⟩) ?_ ?_
                rotate_left
                ·intro w'
                 go_simp
                 with_reducible rfl
                rotate_left
                ·simp only [Act.put, List.setIfInBounds_toArray, List.set_cons_zero, List.set_cons_succ, i64_w, i32_w]
                 rfl
                refine pure_ (i := 12) (N := some 68) (v := ?_) (a' := ?_) #[true, false, true, true, true, true, false, true, false, false, false, true, true, false, false, false, false, false, false, false, false, false, false, false, false, false, false, false] rfl rfl (qB HT_.out (by kernel_rfl)) (fun _ _ _ h => h) (Or.inl ⟨by rfl, ?_⟩) ?_ ?_
                rotate_left
                ·intro w'
                 go_simp
                 with_reducible rfl
                rotate_left
                ·simp only [Act.put, List.setIfInBounds_toArray, List.set_cons_zero, List.set_cons_succ, i64_w, i32_w]
                 rfl
                refine pure_ (i := 13) (N := some 69) (v := ?_) (a' := ?_) #[true, false, true, true, true, true, false, true, false, false, false, true, true, true, false, false, false, false, false, false, false, false, false, false, false, false, false, false] rfl rfl (qB HT_.out (by kernel_rfl)) (fun _ _ _ h => h) (Or.inl ⟨by rfl, ?_⟩) ?_ ?_
                rotate_left
                ·intro w'
                 go_simp
                 with_reducible rfl
                rotate_left
                ·simp only [Act.put, List.setIfInBounds_toArray, List.set_cons_zero, List.set_cons_succ, i64_w, i32_w]
                 rfl
                refine pure_ (i := 14) (N := some 70) (v := ?_) (a' := ?_) #[true, false, true, true, true, true, false, true, false, false, false, true, true, true, true, false, false, false, false, false, false, false, false, false, false, false, false, false] rfl rfl (qB HT_.out (by kernel_rfl)) (fun _ _ _ h => h) (Or.inl ⟨by rfl, ?_⟩) ?_ ?_
                rotate_left
                ·intro w'
                 go_simp
                 with_reducible rfl
                rotate_left
                ·simp only [Act.put, List.setIfInBounds_toArray, List.set_cons_zero, List.set_cons_succ, i64_w, i32_w]
                 rfl
                refine pure_ (i := 15) (N := some 71) (v := ?_) (a' := ?_) #[true, false, true, true, true, true, false, true, false, false, false, true, true, true, true, true, false, false, false, false, false, false, false, false, false, false, false, false] rfl rfl (qB HT_.out (by kernel_rfl)) (fun _ _ _ h => h) (Or.inl ⟨by rfl, ?_⟩) ?_ ?_
                rotate_left
                ·intro w'
                 go_simp
                 with_reducible rfl
                rotate_left
                ·simp only [Act.put, List.setIfInBounds_toArray, List.set_cons_zero, List.set_cons_succ, i64_w, i32_w]
                 rfl
                refine pure_ (i := 17) (N := some 73) (v := ?_) (a' := ?_) #[true, false, true, true, true, true, false, true, false, false, false, true, true, true, true, true, false, true, false, false, false, false, false, false, false, false, false, false] rfl rfl (qB HT_.out (by kernel_rfl)) (fun _ _ _ h => h) (Or.inl ⟨by rfl, ?_⟩) ?_ ?_
                rotate_left
                ·intro w'
                 go_simp
                 with_reducible rfl
                rotate_left
                ·simp only [Act.put, List.setIfInBounds_toArray, List.set_cons_zero, List.set_cons_succ, i64_w, i32_w]
                 rfl
                refine take_ (i := 1) (N := some 57) (v := ?_) (a' := ?_) #[true, true, true, true, true, true, false, true, false, false, false, true, true, true, true, true, false, true, false, false, false, false, false, false, false, false, false, false] rfl rfl (qK HT_.out HW_.out (by kernel_rfl)) (fun _ _ _ h => h) (Or.inl ⟨by rfl, ?_⟩) hHeld ?_ ?_
                rotate_left
                ·rintro w' ⟨s0, s1, s2, s3, s4, s5, s6, s7, s8, s9, s10, s11, s12, s13, s14, s15, s16, s17, s18, s19⟩
                 go_simp
                 with_reducible rfl
                rotate_left
                ·simp only [Act.put, List.setIfInBounds_toArray, List.set_cons_zero, List.set_cons_succ, i64_w, i32_w]
                 rfl
                refine take_ (i := 6) (N := some 62) (v := ?_) (a' := ?_) #[true, true, true, true, true, true, true, true, false, false, false, true, true, true, true, true, false, true, false, false, false, false, false, false, false, false, false, false] rfl rfl (qK HT_.out HW_.out (by kernel_rfl)) (fun _ _ _ h => h) (Or.inl ⟨by rfl, ?_⟩) hHeld ?_ ?_
                rotate_left
                ·rintro w' ⟨s0, s1, s2, s3, s4, s5, s6, s7, s8, s9, s10, s11, s12, s13, s14, s15, s16, s17, s18, s19⟩
                 go_simp
                 with_reducible rfl
                rotate_left
                ·simp only [Act.put, List.setIfInBounds_toArray, List.set_cons_zero, List.set_cons_succ, i64_w, i32_w]
                 rfl
                refine pure_ (i := 8) (N := some 64) (v := ?_) (a' := ?_) #[true, true, true, true, true, true, true, true, true, false, false, true, true, true, true, true, false, true, false, false, false, false, false, false, false, false, false, false] rfl rfl (qB HT_.out (by kernel_rfl)) (fun _ _ _ h => h) (Or.inl ⟨by rfl, ?_⟩) ?_ ?_
                rotate_left
                ·intro w'
                 go_simp
                 with_reducible rfl
                rotate_left
                ·simp only [Act.put, List.setIfInBounds_toArray, List.set_cons_zero, List.set_cons_succ, i64_w, i32_w]
                 rfl
                refine pure_ (i := 9) (N := some 65) (v := ?_) (a' := ?_) #[true, true, true, true, true, true, true, true, true, true, false, true, true, true, true, true, false, true, false, false, false, false, false, false, false, false, false, false] rfl rfl (qB HT_.out (by kernel_rfl)) (fun _ _ _ h => h) (Or.inl ⟨by rfl, ?_⟩) ?_ ?_
                rotate_left
                ·intro w'
                 go_simp
                 with_reducible rfl
                rotate_left
                ·simp only [Act.put, List.setIfInBounds_toArray, List.set_cons_zero, List.set_cons_succ, i64_w, i32_w]
                 rfl
                refine take_ (i := 10) (N := some 66) (v := ?_) (a' := ?_) #[true, true, true, true, true, true, true, true, true, true, true, true, true, true, true, true, false, true, false, false, false, false, false, false, false, false, false, false] rfl rfl (qK HT_.out HW_.out (by kernel_rfl)) (fun _ _ _ h => h) (Or.inl ⟨by rfl, ?_⟩) hHeld ?_ ?_
                rotate_left
                ·rintro w' ⟨s0, s1, s2, s3, s4, s5, s6, s7, s8, s9, s10, s11, s12, s13, s14, s15, s16, s17, s18, s19⟩
                 go_simp
                 with_reducible rfl
                rotate_left
                ·simp only [Act.put, List.setIfInBounds_toArray, List.set_cons_zero, List.set_cons_succ, i64_w, i32_w]
                 rfl
                refine take_ (i := 16) (N := some 72) (v := ?_) (a' := ?_) #[true, true, true, true, true, true, true, true, true, true, true, true, true, true, true, true, true, true, false, false, false, false, false, false, false, false, false, false] rfl rfl (qK HT_.out HW_.out (by kernel_rfl)) (fun _ _ _ h => h) (Or.inl ⟨by rfl, ?_⟩) hHeld ?_ ?_
                rotate_left
                ·rintro w' ⟨s0, s1, s2, s3, s4, s5, s6, s7, s8, s9, s10, s11, s12, s13, s14, s15, s16, s17, s18, s19⟩
                 go_simp
                 with_reducible rfl
                rotate_left
                ·simp only [Act.put, List.setIfInBounds_toArray, List.set_cons_zero, List.set_cons_succ, i64_w, i32_w]
                 rfl
                refine pure_ (i := 18) (N := some 74) (v := ?_) (a' := ?_) #[true, true, true, true, true, true, true, true, true, true, true, true, true, true, true, true, true, true, true, false, false, false, false, false, false, false, false, false] rfl rfl (qB HT_.out (by kernel_rfl)) (fun _ _ _ h => h) (Or.inl ⟨by rfl, ?_⟩) ?_ ?_
                rotate_left
                ·intro w'
                 go_simp
                 with_reducible rfl
                rotate_left
                ·simp only [Act.put, List.setIfInBounds_toArray, List.set_cons_zero, List.set_cons_succ, i64_w, i32_w]
                 rfl
                refine pure_ (i := 19) (N := some 75) (v := ?_) (a' := ?_) #[true, true, true, true, true, true, true, true, true, true, true, true, true, true, true, true, true, true, true, true, false, false, false, false, false, false, false, false] rfl rfl (qB HT_.out (by kernel_rfl)) (fun _ _ _ h => h) (Or.inl ⟨by rfl, ?_⟩) ?_ ?_
                rotate_left
                ·intro w'
                 go_simp
                 with_reducible rfl
                rotate_left
                ·simp only [Act.put, List.setIfInBounds_toArray, List.set_cons_zero, List.set_cons_succ, i64_w, i32_w]
                 rfl
                refine take_ (i := 20) (N := some 76) (v := ?_) (a' := ?_) #[true, true, true, true, true, true, true, true, true, true, true, true, true, true, true, true, true, true, true, true, true, false, false, false, false, false, false, false] rfl rfl (qK HT_.out HW_.out (by kernel_rfl)) (fun _ _ _ h => h) (Or.inl ⟨by rfl, ?_⟩) hHeld ?_ ?_
                rotate_left
                ·rintro w' ⟨s0, s1, s2, s3, s4, s5, s6, s7, s8, s9, s10, s11, s12, s13, s14, s15, s16, s17, s18, s19⟩
                 go_simp
                 with_reducible rfl
                rotate_left
                ·simp only [Act.put, List.setIfInBounds_toArray, List.set_cons_zero, List.set_cons_succ, i64_w, i32_w]
                 rfl
                refine pure_ (i := 21) (N := some 77) (v := ?_) (a' := ?_) #[true, true, true, true, true, true, true, true, true, true, true, true, true, true, true, true, true, true, true, true, true, true, false, false, false, false, false, false] rfl rfl (qB HT_.out (by kernel_rfl)) (fun _ _ _ h => h) (Or.inl ⟨by rfl, ?_⟩) ?_ ?_
                rotate_left
                ·intro w'
                 go_simp
                 with_reducible rfl
                rotate_left
                ·simp only [Act.put, List.setIfInBounds_toArray, List.set_cons_zero, List.set_cons_succ, i64_w, i32_w]
                 rfl
                refine take_ (i := 22) (N := some 78) (v := ?_) (a' := ?_) #[true, true, true, true, true, true, true, true, true, true, true, true, true, true, true, true, true, true, true, true, true, true, true, false, false, false, false, false] rfl rfl (qK HT_.out HW_.out (by kernel_rfl)) (fun _ _ _ h => h) (Or.inl ⟨by rfl, ?_⟩) hHeld ?_ ?_
                rotate_left
                ·rintro w' ⟨s0, s1, s2, s3, s4, s5, s6, s7, s8, s9, s10, s11, s12, s13, s14, s15, s16, s17, s18, s19⟩
                 go_simp
                 with_reducible rfl
                rotate_left
                ·simp only [Act.put, List.setIfInBounds_toArray, List.set_cons_zero, List.set_cons_succ, i64_w, i32_w]
                 rfl
                refine pure_ (i := 23) (N := some 79) (v := ?_) (a' := ?_) #[true, true, true, true, true, true, true, true, true, true, true, true, true, true, true, true, true, true, true, true, true, true, true, true, false, false, false, false] rfl rfl (qB HT_.out (by kernel_rfl)) (fun _ _ _ h => h) (Or.inl ⟨by rfl, ?_⟩) ?_ ?_
                rotate_left
                ·intro w'
                 go_simp
                 with_reducible rfl
                rotate_left
                ·simp only [Act.put, List.setIfInBounds_toArray, List.set_cons_zero, List.set_cons_succ, i64_w, i32_w]
                 rfl
                refine one_ (i := 24) (N := some 80) #[true, true, true, true, true, true, true, true, true, true, true, true, true, true, true, true, true, true, true, true, true, true, true, true, true, false, false, false] rfl rfl (one_of HT_.out (by kernel_rfl)) (by decide) (fun K hK => ?_)
                refine value_ (w1 := ?_) (v := ?_) (by rfl) rfl ?_ ?_
                rotate_left 2
                ·go_simp
                 constructor
                 ·rfl
                 ·rfl
                refine hK.out _ _ ⟨(qb (qh BK233.out _) 0).trans rfl, (qb (qh BK233.out _) 1).trans rfl, (qb (qh BK233.out _) 2).trans rfl, (qb (qh BK233.out _) 3).trans rfl, (qb (qh BK233.out _) 4).trans rfl, (World.cell?_alloc_lt _ _ _ (blc9 _ _ (((HB.out.cell (blc9 w _ hw236_0)).trans hw236_0)))).trans (((HB.out.cell (blc9 w _ hw236_0)).trans hw236_0)), (World.cell?_alloc_lt _ _ _ (blc9 _ _ (((HB.out.cell (blc9 w _ hw236_1)).trans hw236_1)))).trans (((HB.out.cell (blc9 w _ hw236_1)).trans hw236_1)), (World.cell?_alloc_lt _ _ _ (blc9 _ _ (((HB.out.cell (blc9 w _ hw236_2)).trans hw236_2)))).trans (((HB.out.cell (blc9 w _ hw236_2)).trans hw236_2)), (World.cell?_alloc_lt _ _ _ (blc9 _ _ (((HB.out.cell (blc9 w _ hw236_3)).trans hw236_3)))).trans (((HB.out.cell (blc9 w _ hw236_3)).trans hw236_3)), (World.cell?_alloc_lt _ _ _ (blc9 _ _ (((HB.out.cell (blc9 w _ hw236_4)).trans hw236_4)))).trans (((HB.out.cell (blc9 w _ hw236_4)).trans hw236_4)), (World.cell?_alloc_lt _ _ _ (blc9 _ _ (((HB.out.cell (blc9 w _ hw237_0)).trans hw237_0)))).trans (((HB.out.cell (blc9 w _ hw237_0)).trans hw237_0)), (World.cell?_alloc_lt _ _ _ (blc9 _ _ (((HB.out.cell (blc9 w _ hw237_1)).trans hw237_1)))).trans (((HB.out.cell (blc9 w _ hw237_1)).trans hw237_1)), (World.cell?_alloc_lt _ _ _ (blc9 _ _ (((HB.out.cell (blc9 w _ hw238_0)).trans hw238_0)))).trans (((HB.out.cell (blc9 w _ hw238_0)).trans hw238_0)), (World.cell?_alloc_lt _ _ _ (blc9 _ _ (((HB.out.cell (blc9 w _ hw238_1)).trans hw238_1)))).trans (((HB.out.cell (blc9 w _ hw238_1)).trans hw238_1)), (World.cell?_alloc_lt _ _ _ (blc9 _ _ (((HB.out.cell (blc9 w _ hw238_2)).trans hw238_2)))).trans (((HB.out.cell (blc9 w _ hw238_2)).trans hw238_2)), (World.cell?_alloc_lt _ _ _ (blc9 _ _ (((HB.out.cell (blc9 w _ hw238_3)).trans hw238_3)))).trans (((HB.out.cell (blc9 w _ hw238_3)).trans hw238_3)), (World.cell?_alloc_lt _ _ _ (blc9 _ _ (((HB.out.cell (blc9 w _ hw238_4)).trans hw238_4)))).trans (((HB.out.cell (blc9 w _ hw238_4)).trans hw238_4)), (World.cell?_alloc_lt _ _ _ (blc9 _ _ (((HB.out.cell (blc9 w _ hw239_0)).trans hw239_0)))).trans (((HB.out.cell (blc9 w _ hw239_0)).trans hw239_0)), (World.cell?_alloc_lt _ _ _ (blc9 _ _ (((HB.out.cell (blc9 w _ hw239_1)).trans hw239_1)))).trans (((HB.out.cell (blc9 w _ hw239_1)).trans hw239_1)), (World.cell?_alloc_lt _ _ _ (blc9 _ _ (((HB.out.cell (blc9 w _ hw240_0)).trans hw240_0)))).trans (((HB.out.cell (blc9 w _ hw240_0)).trans hw240_0))⟩ (fun hHeld => ?_)
                clear hK K
                refine norm_ (a' := ?_) ?_ ?_
                rotate_left
                ·show Act.put _ (some 80) _ = _
                 simp only [Act.put, List.setIfInBounds_toArray, List.set_cons_zero, List.set_cons_succ, i64_w, i32_w]
                 rfl
                refine one_ (i := 25) (N := some 81) #[true, true, true, true, true, true, true, true, true, true, true, true, true, true, true, true, true, true, true, true, true, true, true, true, true, true, false, false] rfl rfl (one_of HT_.out (by kernel_rfl)) (by decide) (fun K hK => ?_)
                refine Kd.R_append_step k84 (w0 := w) w.heap.size (by rfl) (.tmp 57) (.tmp 80) 62 84 (.agg #[(.int .i64 0), (.int .i64 0)]) 16 rfl Try.underlying62 info84 rfl (by decide) (by omega) u234004 x234004_3 (⟨(qD ((qj l0 x6_1).f4) x8_3).f0, rd l1 ((qD ((qj l0 x6_1).f4) x8_3).f1)⟩ : S84) [.int .i64 ((qD ((qj l0 x6_1).f4) x8_3).f0), .int .i64 (rd l1 ((qD ((qj l0 x6_1).f4) x8_3).f1))] (fun _ => True) (fun _ => False) rfl rfl ?aP (fun _ hk => hk.elim) ?aF ?aO ?aB ?aS ?aL ?_
                (case aP => exact k84_mkM _ _ _ (⟨(qD ((qj l0 x6_1).f4) x8_3).f0, rd l1 ((qD ((qj l0 x6_1).f4) x8_3).f1)⟩ : S84))
                (case aB => exact (by repeat (first | (with_reducible first | exact HB.out | apply qf | apply qc | apply qe | refine qg ?_ GE233.out) | exact HB.out)))
                (case aF => exact (fun _ _ => trivial))
                (case aO => exact (by (with_reducible repeat (first | apply Kd.R_alloc | apply Kd.R_drewN | apply Kd.R_drew)); exact HO_234004.out))
                (case aS => exact (qt (by repeat (first | (with_reducible first | exact HB.out | apply qf | apply qc | apply qe | refine qg ?_ GE233.out) | exact HB.out))))
                (case aL => have := LMc26.out; omega)
                intro v242 w28 ho hb hg hat
                rw [← Ny241.out] at ho
                have n0_ := Aside0.mk (Kd.S_after (ok := (fun k_ => k_ ≠ gb233)) (by (with_reducible repeat (first | apply Kd.S_alloc | apply Kd.S_drewN | apply Kd.S_drew)); exact Kd.S_mono HO_5.out (fun _ hk => ⟨hk.2, hk.1⟩)) hg hat)
                have n1_ := Aside0.mk (blk_grown (g := gb233) (o := .cells #[.int .i64 ((qj l0 x6_1).f0), .int .u32 ((qj l0 x6_1).f1), .int .i64 x234002_6, .int .i64 ((qj l0 x6_1).f3), u234004] 64 (0, 0)) (by (with_reducible repeat (first | refine qi ?_ _ | refine qk ?_ | refine qh ?_ _)); exact BK233.out) hg (Kd.R_ne HO_234004.out BK233.out (by decide)))
                have n2_ := Aside0.mk (hb)
                have n3_ := Aside0.mk (ho)
                clear HO_5
                clear BK233
                clear HB
                clear HO_234004
                have HO_5 := n0_
                have BK233 := n1_
                have HB := n2_
                have HO243 := n3_
                clear n0_ n1_ n2_ n3_
                clear ho hb hg hat
                obtain ⟨Ao29, co29, eo29⟩ := Kd.R_slice HO243.out
                (first | subst eo29 | (injection eo29 with f1_ f2_ f3_; have f4_ := f1_.symm; have f5_ := f3_.symm; clear f1_ f2_ f3_; subst f4_; subst f5_))
                refine hK.out _ _ ⟨(qb BK233.out 0).trans rfl, (qb BK233.out 1).trans rfl, (qb BK233.out 2).trans rfl, (qb BK233.out 3).trans rfl, (qb BK233.out 4).trans rfl, ((HB.out.cell (blc9 w _ hw236_0)).trans hw236_0), ((HB.out.cell (blc9 w _ hw236_1)).trans hw236_1), ((HB.out.cell (blc9 w _ hw236_2)).trans hw236_2), ((HB.out.cell (blc9 w _ hw236_3)).trans hw236_3), ((HB.out.cell (blc9 w _ hw236_4)).trans hw236_4), ((HB.out.cell (blc9 w _ hw237_0)).trans hw237_0), ((HB.out.cell (blc9 w _ hw237_1)).trans hw237_1), ((HB.out.cell (blc9 w _ hw238_0)).trans hw238_0), ((HB.out.cell (blc9 w _ hw238_1)).trans hw238_1), ((HB.out.cell (blc9 w _ hw238_2)).trans hw238_2), ((HB.out.cell (blc9 w _ hw238_3)).trans hw238_3), ((HB.out.cell (blc9 w _ hw238_4)).trans hw238_4), ((HB.out.cell (blc9 w _ hw239_0)).trans hw239_0), ((HB.out.cell (blc9 w _ hw239_1)).trans hw239_1), ((HB.out.cell (blc9 w _ hw240_0)).trans hw240_0)⟩ (fun hHeld => ?_)
                clear hK K
                refine norm_ (a' := ?_) ?_ ?_
                rotate_left
                ·show Act.put _ (some 81) _ = _
                 simp only [Act.put, List.setIfInBounds_toArray, List.set_cons_zero, List.set_cons_succ, i64_w, i32_w]
                 rfl
                refine pure_ (i := 26) (N := some 82) (v := ?_) (a' := ?_) #[true, true, true, true, true, true, true, true, true, true, true, true, true, true, true, true, true, true, true, true, true, true, true, true, true, true, true, false] rfl rfl (qB HT_.out (by kernel_rfl)) (fun _ _ _ h => h) (Or.inl ⟨by rfl, ?_⟩) ?_ ?_
                rotate_left
                ·intro w'
                 go_simp
                 with_reducible rfl
                rotate_left
                ·simp only [Act.put, List.setIfInBounds_toArray, List.set_cons_zero, List.set_cons_succ, i64_w, i32_w]
                 rfl
                refine last_ (i := 27) (N := none) #[true, true, true, true, true, true, true, true, true, true, true, true, true, true, true, true, true, true, true, true, true, true, true, true, true, true, true, true] rfl rfl (one_of HT_.out (by kernel_rfl)) (by decide) (fun K hK => ?_)
                have hs30 : w28.cell? ⟨gb233, 4, none⟩ = some (u234004) := (qb BK233.out 4).trans rfl
                have hfs30 := qa BK233.out 4
                refine skip_ (w1 := ?_) (by rfl) rfl ?_ ?_
                rotate_left
                ·go_simp
                 rfl
                refine hK.out _ _ ?_
                clear hK K
                refine done_ (done_of HT_.out (by kernel_rfl)) ?_
                try go_wp2
                go_roundg k3
                case measure => have := HK1.out; have := HJ6.out; have := HK3.out; omega
                case rel => exact ⟨(wrap64 (x8_3 + 1)), (y241), (.slice Ao29 y241.length co29), (by first | rfl | (simp; done) | (simp [*]; done)), H', ⟨by have := HK1.out; have := HJ6.out; have := HK3.out; omega⟩, ⟨by (with_reducible repeat (first | apply Kd.S_alloc | apply Kd.S_drewN | apply Kd.S_drew)); exact Kd.S_mono (Kd.S_far (p := ⟨gb233, 4, none⟩) (Kd.S_mono HO_5.out (fun k_ hk => (⟨hk, hk.1⟩ : _ ∧ k_ ≠ gb233))) (fun _ hk => hk.2) (.slice Ao29 y241.length co29)) (fun _ hk => ⟨hk.1.2, hk.1.1⟩)⟩, ⟨by (with_reducible repeat (first | apply Kd.R_alloc | apply Kd.R_drewN | apply Kd.R_drew)); exact Kd.R_mono (Kd.R_far (p := ⟨gb233, 4, none⟩) (Kd.R_types HO243.out BK233.out (by decide)) (fun _ hk => hk.2) (.slice Ao29 y241.length co29)) (fun _ hk => trivial)⟩, ⟨by (with_reducible repeat (first | refine qi ?_ _ | refine qk ?_ | refine qh ?_ _)); refine qv (cs := #[.int .i64 ((qj l0 x6_1).f0), .int .u32 ((qj l0 x6_1).f1), .int .i64 x234002_6, .int .i64 ((qj l0 x6_1).f3), u234004]) ?_ 4 _ rfl; (with_reducible repeat (first | refine qi ?_ _ | refine qk ?_ | refine qh ?_ _)); exact BK233.out⟩, ⟨by repeat (first | (with_reducible first | exact HB.out | apply qf | apply qc | apply qe | refine qg ?_ GE233.out) | exact HB.out)⟩⟩
               ·rw [if_neg c26] at H
                exact absurd H (by simp)
              ·rw [if_neg c25] at H
               exact absurd H (by simp)
             ·rw [if_neg c24] at H
              exact absurd H (by simp)
            ·rw [if_neg c23] at H
             exact absurd H (by simp)
           ·rw [if_neg c22] at H
            have c22b0 : decide (x8_3 < (((qj l0 x6_1).f4).length : Int)) = false := decide_eq_false c22
            clear c22
            by_cases c31 : x5_1.length < 2513169434916
            ·rw [if_pos c31] at H
             have LMc31 := Aside0.mk c31
             clear c31
             obtain ⟨y244, hy244⟩ : ∃ y_ : List (S64), y_ = (x5_1 ++ [(⟨((qj l0 x6_1).f0), ((qj l0 x6_1).f1), x234002_6, ((qj l0 x6_1).f3), x234004_3⟩ : S64)]) := ⟨_, rfl⟩
             replace H : (mimesisref28_Exits.l0 k3 l0 l1 y244 (wrap64 (x6_1 + 1))) = some r := by first | (rw [hy244]; with_reducible exact H) | (have H2_ := (Option.bind_some _ _).symm.trans H; rw [hy244]; with_reducible exact H2_) | (have H2_ := (Option.bind_some _ _).symm.trans H; with_reducible exact H2_) | with_reducible exact H | (rw [hy244]; exact H) | exact H
             have Ny244 := Aside0.mk hy244
             clear hy244
             have H' := Aside0.mk H
             clear H
             have p235 : 0 ≤ (x6_1 : Int) := of_decide_eq_true (by assumption)
             have q235 : x6_1 < (l0.length : Int) := of_decide_eq_true (by assumption)
             obtain ⟨ad235, A235_4, c235_4, e235, hx235_0, hx235_1, hx235_2, hx235_3, hx235_4, hl235_4, hi235_4⟩ := at_T64 HR0.out x6_1 p235 q235
             obtain rfl : ad229 = ad235 := (by injection e235)
             replace hx235_0 := (HB.out.cell (blc9 w _ hx235_0)).trans hx235_0
             replace hx235_1 := (HB.out.cell (blc9 w _ hx235_1)).trans hx235_1
             replace hx235_2 := (HB.out.cell (blc9 w _ hx235_2)).trans hx235_2
             replace hx235_3 := (HB.out.cell (blc9 w _ hx235_3)).trans hx235_3
             replace hx235_4 := (HB.out.cell (blc9 w _ hx235_4)).trans hx235_4
             have HR235_4 := Aside0.mk hi235_4
             have HC235_4 := Aside0.mk hl235_4
             clear hi235_4 hl235_4
             replace p235 := eq_true p235
             replace q235 := eq_true q235
             have hcz32_0 : wr.cell? ⟨gb233, 0, none⟩ = some (.int .i64 ((qj l0 x6_1).f0)) := (qb BK233.out 0).trans rfl
             have hcz32_1 : wr.cell? ⟨gb233, 1, none⟩ = some (.int .u32 ((qj l0 x6_1).f1)) := (qb BK233.out 1).trans rfl
             have hcz32_2 : wr.cell? ⟨gb233, 2, none⟩ = some (.int .i64 x234002_6) := (qb BK233.out 2).trans rfl
             have hcz32_3 : wr.cell? ⟨gb233, 3, none⟩ = some (.int .i64 ((qj l0 x6_1).f3)) := (qb BK233.out 3).trans rfl
             have hcz32_4 : wr.cell? ⟨gb233, 4, none⟩ = some (u234004) := (qb BK233.out 4).trans rfl
             have hfz32_0 := qa BK233.out 0
             have hfz32_1 := qa BK233.out 1
             have hfz32_2 := qa BK233.out 2
             have hfz32_3 := qa BK233.out 3
             have hfz32_4 := qa BK233.out 4
             obtain ⟨Ao34, co34, eo34⟩ := Kd.R_slice HO_234004.out
             subst eo34
             go_wp2_with (first | ((with_reducible refine gate_builtin (b := .append) (xs := #[.tmp 83, .tmp 85]) rfl ?_); at_builtin; refine Kd.S_append k64 (w0 := w) w.heap.size rfl (.tmp 83) (.tmp 85) 24 64 (.agg #[(.int .i64 0), (.int .u32 0), (.int .i64 0), (.int .i64 0), (.slice none 0 0)]) 56 rfl Try.underlying24 info64 rfl (by decide) (by omega) u5 x5_1 (⟨((qj l0 x6_1).f0), ((qj l0 x6_1).f1), x234002_6, ((qj l0 x6_1).f3), x234004_3⟩ : S64) [.int .i64 ((qj l0 x6_1).f0), .int .u32 ((qj l0 x6_1).f1), .int .i64 x234002_6, .int .i64 ((qj l0 x6_1).f3), .slice Ao34 x234004_3.length co34] (fun k_ => k_ ≠ gb233) (fun k_ => some k_ = (.slice Ao34 x234004_3.length co34 : Value).ownBlock) rfl rfl ?aP (fun k_ hk_ => ((Kd.R_mono (ok' := fun k_ => ((fun k_ => k_ ≠ gb233)) k_ ∧ some k_ ≠ (u5 : Value).ownBlock) (Kd.R_types (Kd.R_apart' (HO_234004.out) (Kd.S_typed HO_5.out) (by decide)) BK233.out (by decide)) (fun k_ hk => ⟨hk.2, hk.1.2⟩))).1 k_ hk_.symm) ?aF ?aO ?aB ?aS ?aL ?_; (case aP => exact k64_mkM _ _ _ (⟨((qj l0 x6_1).f0), ((qj l0 x6_1).f1), x234002_6, ((qj l0 x6_1).f3), x234004_3⟩ : S64) (Kd.R_mono (Kd.R_tight rfl (Kd.R_mono (ok' := fun k_ => ((fun k_ => k_ ≠ gb233)) k_ ∧ some k_ ≠ (u5 : Value).ownBlock) (Kd.R_types (Kd.R_apart' (HO_234004.out) (Kd.S_typed HO_5.out) (by decide)) BK233.out (by decide)) (fun k_ hk => ⟨hk.2, hk.1.2⟩))) (fun _ h_ => h_))); (case aB => exact (by repeat (first | (with_reducible first | exact HB.out | apply qf | apply qc | apply qe | refine qg ?_ GE233.out) | exact HB.out))); (case aF => exact (fun k_ hk => Kd.freshB (g := gb233) (o := .cells #[.int .i64 ((qj l0 x6_1).f0), .int .u32 ((qj l0 x6_1).f1), .int .i64 x234002_6, .int .i64 ((qj l0 x6_1).f3), .slice Ao34 x234004_3.length co34] 64 (0, 0)) (by (with_reducible repeat (first | refine qi ?_ _ | refine qk ?_ | refine qh ?_ _)); exact BK233.out) k_ hk)); (case aO => exact (by (with_reducible repeat (first | apply Kd.S_alloc | apply Kd.S_drewN | apply Kd.S_drew)); exact Kd.S_mono HO_5.out (fun k_ hk => ⟨hk.2, fun e_ => hk.1 e_⟩))); (case aS => exact (qt (by repeat (first | (with_reducible first | exact HB.out | apply qf | apply qc | apply qe | refine qg ?_ GE233.out) | exact HB.out)))); (case aL => have := LMc31.out; omega); intro v245 w33 ho hb hg hat; rw [← Ny244.out] at ho; have n0_ := Aside0.mk (blk_grown (g := gb233) (o := .cells #[.int .i64 ((qj l0 x6_1).f0), .int .u32 ((qj l0 x6_1).f1), .int .i64 x234002_6, .int .i64 ((qj l0 x6_1).f3), .slice Ao34 x234004_3.length co34] 64 (0, 0)) (by (with_reducible repeat (first | refine qi ?_ _ | refine qk ?_ | refine qh ?_ _)); exact BK233.out) hg (Kd.S_away HO_5.out (fun _ hk => hk.2))); have n1_ := Aside0.mk (hb); have n2_ := Aside0.mk (ho); clear BK233; clear HB; clear HO_5; clear HO_234004; have BK233 := n0_; have HB := n1_; have HO246 := n2_; clear n0_ n1_ n2_; clear ho hb hg hat))
             go_roundg k3
             case measure => have := HK1.out; have := HJ6.out; have := HK3.out; omega
             case rel => exact ⟨(y244), (wrap64 (x6_1 + 1)), (by first | rfl | (simp; done) | (simp [*]; done)), H', ⟨by have := HK1.out; have := HJ6.out; have := HK3.out; omega⟩, ⟨by (with_reducible repeat (first | apply Kd.S_alloc | apply Kd.S_drewN | apply Kd.S_drew)); exact Kd.S_mono HO246.out (fun _ hk => trivial)⟩, ⟨by repeat (first | (with_reducible first | exact HB.out | apply qf | apply qc | apply qe | refine qg ?_ GE233.out) | exact HB.out)⟩⟩
            ·rw [if_neg c31] at H
             exact absurd H (by simp)
          ·rw [if_neg c21] at H
           exact absurd H (by simp)
         ·rw [if_neg c20] at H
          exact absurd H (by simp)
    ·rw [if_neg c6] at H
     exact absurd H (by simp)
   ·rw [if_neg c5] at H
    have c5b0 : decide (x6_1 < (l0.length : Int)) = false := decide_eq_false c5
    clear c5
    obtain rfl := Option.some.inj H
    go_wp2
    go_ret
    exact ⟨_, by first | rfl | (simp [qm, qn] <;> rfl) | (simp [*, qm, qn] <;> rfl), by (with_reducible repeat (first | apply Kd.S_alloc | apply Kd.S_drewN | apply Kd.S_drew)); exact HO_5.out, by repeat (first | (with_reducible first | exact HB.out | apply qf | apply qc | apply qe) | exact HB.out)⟩

end Go.Proofs.Ytlnbghhhifnbdaa.PNumberDoes
