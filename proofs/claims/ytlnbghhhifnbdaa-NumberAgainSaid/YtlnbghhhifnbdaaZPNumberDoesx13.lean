/- Proved: contracts of single functions, and words for them, as the kit's print has printed them; names shortened. Conditions: those that each theorem names. -/
import Derived.Test.YtlnbghhhifnbdaaZPNumberDoesx0
import Derived.Test.YtlnbghhhifnbdaaZPNumberDoesx12
namespace Go.Proofs.Ytlnbghhhifnbdaa.PNumberDoes
open Go.RowKit Go.Proofs.YtlnbghhhifnbdaaW.PrintWords Go.Proofs.YtlnbghhhifnbdaaW.PrintLast Go.Proofs.YtlnbghhhifnbdaaW.PrintMore
attribute [local go_sem] max2_int min2_int max_two min_two qQ qR max_four min_four
set_option linter.unusedVariables false
set_option linter.unusedSimpArgs false

mutual
def mimesisref29_find.l0 : Nat → List (S59) → Int → Int → Int → Int → Int → Int → Int → Int → Option (Int)
 | 0, _, _, _, _, _, _, _, _, _ => none
 | k + 1, x0, x5, x6, x222000, x222001, x222002, x222003, x222004, x222005 => if x6 < (x0.length : Int) then (if x5 < 0 then (if 0 ≤ x6 then ((mimesisref29_Alike.f k ((ql x0 x6).f0) ((ql x0 x6).f1) ((ql x0 x6).f2) ((ql x0 x6).f3) ((ql x0 x6).f4) ((ql x0 x6).f5) x222000 x222001 x222002 x222003 x222004 x222005).bind fun t223 => (mimesisref29_find.j1 k x0 x5 x6 t223 x222000 x222001 x222002 x222003 x222004 x222005)) else (none)) else (mimesisref29_find.j1 k x0 x5 x6 false x222000 x222001 x222002 x222003 x222004 x222005)) else (some x5)
def mimesisref29_find.j1 : Nat → List (S59) → Int → Int → Bool → Int → Int → Int → Int → Int → Int → Option (Int)
 | 0, _, _, _, _, _, _, _, _, _, _ => none
 | k + 1, x0, x5, x6, x22, x222000, x222001, x222002, x222003, x222004, x222005 => if x22 = true then (if 0 ≤ x6 then (if x6 < (x0.length : Int) then (if ((ql x0 x6).f0) = 5 then (if x222000 = 4 then (mimesisref29_find.l0 k x0 (-1) (wrap64 (x6 + 1)) x222000 x222001 x222002 x222003 x222004 x222005) else (mimesisref29_find.l0 k x0 x6 (wrap64 (x6 + 1)) x222000 x222001 x222002 x222003 x222004 x222005)) else (mimesisref29_find.l0 k x0 x6 (wrap64 (x6 + 1)) x222000 x222001 x222002 x222003 x222004 x222005)) else (none)) else (none)) else (if 0 ≤ x6 then (if x6 < (x0.length : Int) then (if ((ql x0 x6).f0) = 5 then (if x222000 = 4 then (mimesisref29_find.l0 k x0 (-1) (wrap64 (x6 + 1)) x222000 x222001 x222002 x222003 x222004 x222005) else (mimesisref29_find.l0 k x0 x5 (wrap64 (x6 + 1)) x222000 x222001 x222002 x222003 x222004 x222005)) else (mimesisref29_find.l0 k x0 x5 (wrap64 (x6 + 1)) x222000 x222001 x222002 x222003 x222004 x222005)) else (none)) else (none))
end
def mimesisref29_find.f (k : Nat) (l0 : List (S59)) (a1_0 : Int) (a1_1 : Int) (a1_2 : Int) (a1_3 : Int) (a1_4 : Int) (a1_5 : Int) : Option (Int) := mimesisref29_find.l0 k l0 (-1) 0 a1_0 a1_1 a1_2 a1_3 a1_4 a1_5
def mimesisref29_find.T5 : Bool × List (List Nat × List Nat) := (true, [([], []), ([0], [0]), ([1], [1]), ([2], [2]), ([2], [2]), ([3, 4, 2], [2, 3, 4]), ([5, 2], [2, 5]), ([2], [2]), ([6, 7, 2, 2], [2, 6, 7]), ([2, 8], [2, 8])])
def mimesisref29_find.B5 : List Nat := [0, 1, 3, 7, 7, 31, 63, 7, 255, 511]
theorem mimesisref29_find.tab5 : rtab .any (opsOf Try.f63 5) = mimesisref29_find.T5 := by kernel_rfl
theorem mimesisref29_find.bits5 : waitsOk mimesisref29_find.T5.2 mimesisref29_find.B5 = true := by kernel_rfl
set_option maxHeartbeats 8000000 in
set_option maxRecDepth 100000 in
theorem mimesisref29_find.calls (k : Nat) (A0 : Option Addr) (c0 : Nat) (l0 : List (S59)) (a1_0 : Int) (a1_1 : Int) (a1_2 : Int) (a1_3 : Int) (a1_4 : Int) (a1_5 : Int) (r : Int) (w : World) (hr0 : Kd.C k59 w A0 l0.length l0) (hc0 : l0.length ≤ c0) (h : mimesisref29_find.f k l0 a1_0 a1_1 a1_2 a1_3 a1_4 a1_5 = some r) :
  Calls Try.prog 63 #[.slice A0 l0.length c0, .agg #[.int .i64 a1_0, .int .i64 a1_1, .int .i64 a1_2, .int .u32 a1_3, .int .i64 a1_4, .int .i64 a1_5]] w fun e w' => e = .returned (.int .i64 r) ∧ Below w.heap.size w w' := by
 have hu59 := Try.underlying59
 have HR0 := Aside0.mk hr0
 have HC0 := Aside0.mk hc0
 clear hr0 hc0
 have HB := Aside0.mk (Below.refl w.heap.size w)
 have H : (mimesisref29_find.l0 k l0 (-1) 0 a1_0 a1_1 a1_2 a1_3 a1_4 a1_5) = some r := h
 clear h
 have H' := Aside0.mk H
 clear H
 go_enter Try.func63, Try.ntmps63
 go_wp2_with (first | ((with_reducible refine qC (N := 3) rfl ?_); refine qA ?hg (N := 3) ?hd (cs := #[.int .i64 a1_0, .int .i64 a1_1, .int .i64 a1_2, .int .u32 a1_3, .int .i64 a1_4, .int .i64 a1_5]) (t := 59) ?hr ?_; (case hd => rfl); (case hg => rfl); (case hr => first | (go_simp; done) | (go_simp; rfl)); intro gb221 hg w3 hbox hb; have n0_ := Aside0.mk (qq (by repeat (first | (with_reducible first | exact HB.out | apply qf | apply qc | apply qe) | exact HB.out)) hb); have n1_ := Aside0.mk (hbox); have n2_ := Aside0.mk ((by rw [hg]; exact (qt (by repeat (first | (with_reducible first | exact HB.out | apply qf | apply qc | apply qe) | exact HB.out))) : w.heap.size ≤ gb221)); have n3_ := Aside0.mk ((by rw [hg]; exact (qt (by repeat (first | (with_reducible first | exact HB.out | apply qf | apply qc | apply qe) | exact HB.out))) : w.heap.size ≤ gb221)); clear HB; have HB := n0_; have BK221 := n1_; have GW221 := n2_; have GE221 := n3_; clear n0_ n1_ n2_ n3_; clear hb hbox hg))
 go_loopg [5, 6] k (fun kq v5 v6 w' => ∃ (x5_1 : Int) (x6_1 : Int), v5 = .int .i64 x5_1 ∧ v6 = .int .i64 x6_1 ∧ Aside0 (mimesisref29_find.l0 kq l0 x5_1 x6_1 a1_0 a1_1 a1_2 a1_3 a1_4 a1_5 = some r) ∧ Aside0 (kq ≤ k) ∧ Aside0 (w'.heap[gb221]? = some (.cells #[.int .i64 a1_0, .int .i64 a1_1, .int .i64 a1_2, .int .u32 a1_3, .int .i64 a1_4, .int .i64 a1_5] 59 (0, 0))) ∧ Aside0 (Below w.heap.size w w'))
 case atStart => exact ⟨((-1)), (0), (by first | rfl | (simp; done) | (simp [*]; done)), (by first | rfl | (simp; done) | (simp [*]; done)), H', ⟨Nat.le_refl _⟩, ⟨by (with_reducible repeat (first | refine qi ?_ _ | refine qk ?_ | refine qh ?_ _)); exact BK221.out⟩, ⟨by repeat (first | (with_reducible first | exact HB.out | apply qf | apply qc | apply qe | refine qg ?_ GE221.out) | exact HB.out)⟩⟩
 case round =>
  clear H'
  try clear p2
  obtain ⟨x5_1, x6_1, rfl, rfl, HA, HK1, BK221, HB⟩ := hrel
  cases gk with
  | zero => exact absurd HA.out (by simp [mimesisref29_find.l0])
  | succ k1 =>
   have H := HA.out
   clear HA
   simp only [mimesisref29_find.l0] at H
   by_cases c4 : x6_1 < (l0.length : Int)
   ·rw [if_pos c4] at H
    have c4b0 : decide (x6_1 < (l0.length : Int)) = true := decide_eq_true c4
    clear c4
    have HC5 := Aside0.mk H
    clear H
    go_upto_region 5 with (fail)
    go_cut [22] (fun v22 wc => ∃ (kq : Nat) (x22_4 : Bool), v22 = .bool x22_4 ∧ Aside0 (mimesisref29_find.j1 kq l0 x5_1 x6_1 x22_4 a1_0 a1_1 a1_2 a1_3 a1_4 a1_5 = some r) ∧ Aside0 (kq ≤ k1) ∧ Aside0 (wc.heap[gb221]? = some (.cells #[.int .i64 a1_0, .int .i64 a1_1, .int .i64 a1_2, .int .u32 a1_3, .int .i64 a1_4, .int .i64 a1_5] 59 (0, 0))) ∧ Aside0 (Below w.heap.size w wc))
    case first =>
     have H := HC5.out
     clear HC5
     by_cases c6 : x5_1 < 0
     ·rw [if_pos c6] at H
      have c6b0 : decide (x5_1 < 0) = true := decide_eq_true c6
      clear c6
      (first | rw [c6b0] | (simp only [i64_w, i32_w]; rw [c6b0]) | skip)
      by_cases c7 : 0 ≤ x6_1
      ·rw [if_pos c7] at H
       have c7b0 : decide (0 ≤ x6_1) = true := decide_eq_true c7
       clear c7
       replace H := Option.bind_eq_some_iff.mp H
       obtain ⟨t223, A80, H⟩ := H
       replace H : (mimesisref29_find.j1 k1 l0 x5_1 x6_1 t223 a1_0 a1_1 a1_2 a1_3 a1_4 a1_5) = some r := H
       have A8 := Aside0.mk A80
       clear A80
       have H' := Aside0.mk H
       clear H
       try go_wp2
       have n0_ := Aside0.mk (qk BK221.out)
       have n1_ := Aside0.mk (qe HB.out)
       clear BK221
       clear HB
       have BK221 := n0_
       have HB := n1_
       clear n0_ n1_
       have p222 : 0 ≤ (x6_1 : Int) := of_decide_eq_true (by assumption)
       have q222 : x6_1 < (l0.length : Int) := of_decide_eq_true (by assumption)
       obtain ⟨ad222, e222, hx222_0, hx222_1, hx222_2, hx222_3, hx222_4, hx222_5⟩ := at_T59 HR0.out x6_1 p222 q222
       have hw222_5 := hx222_5
       have hw222_4 := hx222_4
       have hw222_3 := hx222_3
       have hw222_2 := hx222_2
       have hw222_1 := hx222_1
       have hw222_0 := hx222_0
       cases e222
       replace hx222_0 := (HB.out.cell (blc9 w _ hx222_0)).trans hx222_0
       replace hx222_1 := (HB.out.cell (blc9 w _ hx222_1)).trans hx222_1
       replace hx222_2 := (HB.out.cell (blc9 w _ hx222_2)).trans hx222_2
       replace hx222_3 := (HB.out.cell (blc9 w _ hx222_3)).trans hx222_3
       replace hx222_4 := (HB.out.cell (blc9 w _ hx222_4)).trans hx222_4
       replace hx222_5 := (HB.out.cell (blc9 w _ hx222_5)).trans hx222_5
       replace p222 := eq_true p222
       replace q222 := eq_true q222
       refine start_ (n := 10) (S := fun w' => w'.cell? ⟨gb221, 0, none⟩ = some (.int .i64 a1_0) ∧ w'.cell? ⟨gb221, 1, none⟩ = some (.int .i64 a1_1) ∧ w'.cell? ⟨gb221, 2, none⟩ = some (.int .i64 a1_2) ∧ w'.cell? ⟨gb221, 3, none⟩ = some (.int .u32 a1_3) ∧ w'.cell? ⟨gb221, 4, none⟩ = some (.int .i64 a1_4) ∧ w'.cell? ⟨gb221, 5, none⟩ = some (.int .i64 a1_5) ∧ w'.cell? (ad222.add ((x6_1).toNat * 6)) = some (.int .i64 ((ql l0 x6_1).f0)) ∧ w'.cell? ⟨(ad222.add ((x6_1).toNat * 6)).block, (ad222.add ((x6_1).toNat * 6)).off + 1, none⟩ = some (.int .i64 ((ql l0 x6_1).f1)) ∧ w'.cell? ⟨(ad222.add ((x6_1).toNat * 6)).block, (ad222.add ((x6_1).toNat * 6)).off + 2, none⟩ = some (.int .i64 ((ql l0 x6_1).f2)) ∧ w'.cell? ⟨(ad222.add ((x6_1).toNat * 6)).block, (ad222.add ((x6_1).toNat * 6)).off + 3, none⟩ = some (.int .u32 ((ql l0 x6_1).f3)) ∧ w'.cell? ⟨(ad222.add ((x6_1).toNat * 6)).block, (ad222.add ((x6_1).toNat * 6)).off + 4, none⟩ = some (.int .i64 ((ql l0 x6_1).f4)) ∧ w'.cell? ⟨(ad222.add ((x6_1).toNat * 6)).block, (ad222.add ((x6_1).toNat * 6)).off + 5, none⟩ = some (.int .i64 ((ql l0 x6_1).f5))) (ds := []) #[false, false, false, false, false, false, false, false, false, false] (by kernel_rfl) rfl rfl ⟨(qb BK221.out 0).trans rfl, (qb BK221.out 1).trans rfl, (qb BK221.out 2).trans rfl, (qb BK221.out 3).trans rfl, (qb BK221.out 4).trans rfl, (qb BK221.out 5).trans rfl, ((HB.out.cell (blc9 w _ hw222_0)).trans hw222_0), ((HB.out.cell (blc9 w _ hw222_1)).trans hw222_1), ((HB.out.cell (blc9 w _ hw222_2)).trans hw222_2), ((HB.out.cell (blc9 w _ hw222_3)).trans hw222_3), ((HB.out.cell (blc9 w _ hw222_4)).trans hw222_4), ((HB.out.cell (blc9 w _ hw222_5)).trans hw222_5)⟩ (fun hHeld => ?_); refine with_tabW mimesisref29_find.tab5 mimesisref29_find.bits5 (fun HT_ HW_ => ?_)
       generalize wr.drew = w9 at BK221 HB hx222_0 hx222_1 hx222_2 hx222_3 hx222_4 hx222_5 hHeld ⊢
       refine pure_ (i := 0) (N := some 13) (v := ?_) (a' := ?_) #[true, false, false, false, false, false, false, false, false, false] rfl rfl (qB HT_.out (by kernel_rfl)) (fun _ _ _ h => h) (Or.inl ⟨by rfl, ?_⟩) ?_ ?_
       rotate_left
       ·intro w'
        go_simp
        with_reducible rfl
       rotate_left
       ·simp only [Act.put, List.setIfInBounds_toArray, List.set_cons_zero, List.set_cons_succ, i64_w, i32_w]
        rfl
       refine pure_ (i := 1) (N := some 14) (v := ?_) (a' := ?_) #[true, true, false, false, false, false, false, false, false, false] rfl rfl (qB HT_.out (by kernel_rfl)) (fun _ _ _ h => h) (Or.inl ⟨by rfl, ?_⟩) ?_ ?_
       rotate_left
       ·intro w'
        go_simp
        with_reducible rfl
       rotate_left
       ·simp only [Act.put, List.setIfInBounds_toArray, List.set_cons_zero, List.set_cons_succ, i64_w, i32_w]
        rfl
       refine pure_ (i := 2) (N := some 15) (v := ?_) (a' := ?_) #[true, true, true, false, false, false, false, false, false, false] rfl rfl (qB HT_.out (by kernel_rfl)) (fun _ _ _ h => h) (Or.inl ⟨by rfl, ?_⟩) ?_ ?_
       rotate_left
       ·intro w'
        go_simp
        with_reducible rfl
       rotate_left
       ·simp only [Act.put, List.setIfInBounds_toArray, List.set_cons_zero, List.set_cons_succ, i64_w, i32_w]
        rfl
       refine pure_ (i := 3) (N := some 16) (v := ?_) (a' := ?_) #[true, true, true, true, false, false, false, false, false, false] rfl rfl (qB HT_.out (by kernel_rfl)) (fun _ _ _ h => h) (Or.inl ⟨by rfl, ?_⟩) ?_ ?_
       rotate_left
       ·intro w'
        go_simp
        with_reducible rfl
       rotate_left
       ·simp only [Act.put, List.setIfInBounds_toArray, List.set_cons_zero, List.set_cons_succ, i64_w, i32_w]
        rfl
       refine pure_ (i := 4) (N := some 17) (v := ?_) (a' := ?_) #[true, true, true, true, true, false, false, false, false, false] rfl rfl (qB HT_.out (by kernel_rfl)) (fun _ _ _ h => h) (Or.inl ⟨by rfl, ?_⟩) ?_ ?_
       rotate_left
       ·intro w'
        go_simp
        with_reducible rfl
       rotate_left
       ·simp only [Act.put, List.setIfInBounds_toArray, List.set_cons_zero, List.set_cons_succ, i64_w, i32_w]
        rfl
       refine pure_ (i := 5) (N := some 18) (v := ?_) (a' := ?_) #[true, true, true, true, true, true, false, false, false, false] rfl rfl (qB HT_.out (by kernel_rfl)) (fun _ _ _ h => h) (Or.inl ⟨by rfl, ?_⟩) ?_ ?_
       rotate_left
       ·intro w'
        go_simp
        with_reducible rfl
       rotate_left
       ·simp only [Act.put, List.setIfInBounds_toArray, List.set_cons_zero, List.set_cons_succ, i64_w, i32_w]
        rfl
       refine take_ (i := 6) (N := some 19) (v := ?_) (a' := ?_) #[true, true, true, true, true, true, true, false, false, false] rfl rfl (qK HT_.out HW_.out (by kernel_rfl)) (fun _ _ _ h => h) (Or.inl ⟨by rfl, ?_⟩) hHeld ?_ ?_
       rotate_left
       ·rintro w' ⟨s0, s1, s2, s3, s4, s5, s6, s7, s8, s9, s10, s11⟩
        go_simp
        with_reducible rfl
       rotate_left
       ·simp only [Act.put, List.setIfInBounds_toArray, List.set_cons_zero, List.set_cons_succ, i64_w, i32_w]
        rfl
       refine take_ (i := 7) (N := some 20) (v := ?_) (a' := ?_) #[true, true, true, true, true, true, true, true, false, false] rfl rfl (qK HT_.out HW_.out (by kernel_rfl)) (fun _ _ _ h => h) (Or.inl ⟨by rfl, ?_⟩) hHeld ?_ ?_
       rotate_left
       ·rintro w' ⟨s0, s1, s2, s3, s4, s5, s6, s7, s8, s9, s10, s11⟩
        go_simp
        with_reducible rfl
       rotate_left
       ·simp only [Act.put, List.setIfInBounds_toArray, List.set_cons_zero, List.set_cons_succ, i64_w, i32_w]
        rfl
       refine one_ (i := 8) (N := some 21) #[true, true, true, true, true, true, true, true, true, false] rfl rfl (one_of HT_.out (by kernel_rfl)) (by decide) (fun K hK => ?_)
       refine goes_ Try.func30 (by kernel_rfl) rfl #[.agg #[.int .i64 ((ql l0 x6_1).f0), .int .i64 ((ql l0 x6_1).f1), .int .i64 ((ql l0 x6_1).f2), .int .u32 ((ql l0 x6_1).f3), .int .i64 ((ql l0 x6_1).f4), .int .i64 ((ql l0 x6_1).f5)], .agg #[.int .i64 a1_0, .int .i64 a1_1, .int .i64 a1_2, .int .u32 a1_3, .int .i64 a1_4, .int .i64 a1_5]] (by rfl) rfl rfl (by (try simp only [List.map_toArray, List.map_cons, List.map_nil]); first | done | rfl | (simp only [List.length_drop, List.length_take]; rfl)) ?_
       with_reducible refine (mimesisref29_Alike.calls k1 ((ql l0 x6_1).f0) ((ql l0 x6_1).f1) ((ql l0 x6_1).f2) ((ql l0 x6_1).f3) ((ql l0 x6_1).f4) ((ql l0 x6_1).f5) a1_0 a1_1 a1_2 a1_3 a1_4 a1_5 t223 _ A8.out).mono ?_
       rintro e w10 ⟨rfl, hb⟩
       refine ⟨_, rfl, ?_⟩
       have n0_ := Aside0.mk (qo (g := gb221) (o := .cells #[.int .i64 a1_0, .int .i64 a1_1, .int .i64 a1_2, .int .u32 a1_3, .int .i64 a1_4, .int .i64 a1_5] 59 (0, 0)) (by (with_reducible repeat (first | refine qi ?_ _ | refine qk ?_ | refine qh ?_ _)); exact BK221.out) hb)
       have n1_ := Aside0.mk (qq (by repeat (first | (with_reducible first | exact HB.out | apply qf | apply qc | apply qe | refine qg ?_ GE221.out) | exact HB.out)) hb)
       clear BK221
       clear HB
       have BK221 := n0_
       have HB := n1_
       clear n0_ n1_
       (try clear hb)
       (try clear hb2)
       (try clear hk)
       (try clear hi)
       refine hK.out _ _ ⟨(qb BK221.out 0).trans rfl, (qb BK221.out 1).trans rfl, (qb BK221.out 2).trans rfl, (qb BK221.out 3).trans rfl, (qb BK221.out 4).trans rfl, (qb BK221.out 5).trans rfl, ((HB.out.cell (blc9 w _ hw222_0)).trans hw222_0), ((HB.out.cell (blc9 w _ hw222_1)).trans hw222_1), ((HB.out.cell (blc9 w _ hw222_2)).trans hw222_2), ((HB.out.cell (blc9 w _ hw222_3)).trans hw222_3), ((HB.out.cell (blc9 w _ hw222_4)).trans hw222_4), ((HB.out.cell (blc9 w _ hw222_5)).trans hw222_5)⟩ (fun hHeld => ?_)
       clear hK K
       refine norm_ (a' := ?_) ?_ ?_
       rotate_left
       ·show Act.put _ (some 21) _ = _
        simp only [Act.put, List.setIfInBounds_toArray, List.set_cons_zero, List.set_cons_succ, i64_w, i32_w]
        rfl
       refine pure_ (i := 9) (N := some 22) (v := ?_) (a' := ?_) #[true, true, true, true, true, true, true, true, true, true] rfl rfl (qB HT_.out (by kernel_rfl)) (fun _ _ _ h => h) (Or.inl ⟨by rfl, ?_⟩) ?_ ?_
       rotate_left
       ·intro w'
        go_simp
        with_reducible rfl
       rotate_left
       ·simp only [Act.put, List.setIfInBounds_toArray, List.set_cons_zero, List.set_cons_succ, i64_w, i32_w]
        rfl
       refine done_ (done_of HT_.out (by kernel_rfl)) ?_
       try go_wp2
       go_meet
       case rel => exact ⟨_, (t223), (by first | rfl | (simp; done) | (simp [*]; done)), H', ⟨by have := HK1.out; first | omega | exact Nat.le_refl _⟩, ⟨by (with_reducible repeat (first | refine qi ?_ _ | refine qk ?_ | refine qh ?_ _)); exact BK221.out⟩, ⟨by repeat (first | (with_reducible first | exact HB.out | apply qf | apply qc | apply qe | refine qg ?_ GE221.out) | exact HB.out)⟩⟩
      ·rw [if_neg c7] at H
       exact absurd H (by simp)
     ·rw [if_neg c6] at H
      have c6b0 : decide (x5_1 < 0) = false := decide_eq_false c6
      clear c6
      (first | rw [c6b0] | (simp only [i64_w, i32_w]; rw [c6b0]) | skip)
      have H' := Aside0.mk H
      clear H
      try go_wp2
      have n0_ := Aside0.mk (qk BK221.out)
      have n1_ := Aside0.mk (qe HB.out)
      clear BK221
      clear HB
      have BK221 := n0_
      have HB := n1_
      clear n0_ n1_
      refine start_ (n := 10) (S := fun w' => True) (ds := []) #[false, false, false, false, false, false, false, false, false, false] (by kernel_rfl) rfl rfl trivial (fun hHeld => ?_); refine with_tabW mimesisref29_find.tab5 mimesisref29_find.bits5 (fun HT_ HW_ => ?_)
      generalize wr.drew = w11 at BK221 HB hHeld ⊢
      refine pure_ (i := 0) (N := some 13) (v := ?_) (a' := ?_) #[true, false, false, false, false, false, false, false, false, false] rfl rfl (qB HT_.out (by kernel_rfl)) (fun _ _ _ h => h) (Or.inl ⟨by rfl, ?_⟩) ?_ ?_
      rotate_left
      ·intro w'
       go_simp
       with_reducible rfl
      rotate_left
      ·simp only [Act.put, List.setIfInBounds_toArray, List.set_cons_zero, List.set_cons_succ, i64_w, i32_w]
       rfl
      refine pure_ (i := 1) (N := some 14) (v := ?_) (a' := ?_) #[true, true, false, false, false, false, false, false, false, false] rfl rfl (qB HT_.out (by kernel_rfl)) (fun _ _ _ h => h) (Or.inl ⟨by rfl, ?_⟩) ?_ ?_
      rotate_left
      ·intro w'
       go_simp
       with_reducible rfl
      rotate_left
      ·simp only [Act.put, List.setIfInBounds_toArray, List.set_cons_zero, List.set_cons_succ, i64_w, i32_w]
       rfl
      refine pure_ (i := 2) (N := some 15) (v := ?_) (a' := ?_) #[true, true, true, false, false, false, false, false, false, false] rfl rfl (qB HT_.out (by kernel_rfl)) (fun _ _ _ h => h) (Or.inl ⟨by rfl, ?_⟩) ?_ ?_
      rotate_left
      ·intro w'
       go_simp
       with_reducible rfl
      rotate_left
      ·simp only [Act.put, List.setIfInBounds_toArray, List.set_cons_zero, List.set_cons_succ, i64_w, i32_w]
       rfl
      refine pure_ (i := 3) (N := some 16) (v := undef) (a' := ?_) #[true, true, true, true, false, false, false, false, false, false] rfl rfl (qB HT_.out (by kernel_rfl)) (fun _ _ _ h => h) (Or.inr ⟨by rfl, rfl⟩) ?_ ?_
      rotate_left
      ·simp only [Act.put, List.setIfInBounds_toArray, List.set_cons_zero, List.set_cons_succ, i64_w, i32_w]
       rfl
      refine pure_ (i := 4) (N := some 17) (v := undef) (a' := ?_) #[true, true, true, true, true, false, false, false, false, false] rfl rfl (qB HT_.out (by kernel_rfl)) (fun _ _ _ h => h) (Or.inr ⟨by rfl, rfl⟩) ?_ ?_
      rotate_left
      ·simp only [Act.put, List.setIfInBounds_toArray, List.set_cons_zero, List.set_cons_succ, i64_w, i32_w]
       rfl
      refine pure_ (i := 5) (N := some 18) (v := undef) (a' := ?_) #[true, true, true, true, true, true, false, false, false, false] rfl rfl (qB HT_.out (by kernel_rfl)) (fun _ _ _ h => h) (Or.inr ⟨by rfl, rfl⟩) ?_ ?_
      rotate_left
      ·simp only [Act.put, List.setIfInBounds_toArray, List.set_cons_zero, List.set_cons_succ, i64_w, i32_w]
       rfl
      refine pure_ (i := 6) (N := some 19) (v := undef) (a' := ?_) #[true, true, true, true, true, true, true, false, false, false] rfl rfl (qB HT_.out (by kernel_rfl)) (fun _ _ _ h => h) (Or.inr ⟨by rfl, rfl⟩) ?_ ?_
      rotate_left
      ·simp only [Act.put, List.setIfInBounds_toArray, List.set_cons_zero, List.set_cons_succ, i64_w, i32_w]
       rfl
      refine pure_ (i := 7) (N := some 20) (v := undef) (a' := ?_) #[true, true, true, true, true, true, true, true, false, false] rfl rfl (qB HT_.out (by kernel_rfl)) (fun _ _ _ h => h) (Or.inr ⟨by rfl, rfl⟩) ?_ ?_
      rotate_left
      ·simp only [Act.put, List.setIfInBounds_toArray, List.set_cons_zero, List.set_cons_succ, i64_w, i32_w]
       rfl
      refine pure_ (i := 8) (N := some 21) (v := undef) (a' := ?_) #[true, true, true, true, true, true, true, true, true, false] rfl rfl (qB HT_.out (by kernel_rfl)) (fun _ _ _ h => h) (Or.inr ⟨by rfl, rfl⟩) ?_ ?_
      rotate_left
      ·simp only [Act.put, List.setIfInBounds_toArray, List.set_cons_zero, List.set_cons_succ, i64_w, i32_w]
       rfl
      refine pure_ (i := 9) (N := some 22) (v := ?_) (a' := ?_) #[true, true, true, true, true, true, true, true, true, true] rfl rfl (qB HT_.out (by kernel_rfl)) (fun _ _ _ h => h) (Or.inl ⟨by rfl, ?_⟩) ?_ ?_
      rotate_left
      ·intro w'
       go_simp
       with_reducible rfl
      rotate_left
      ·simp only [Act.put, List.setIfInBounds_toArray, List.set_cons_zero, List.set_cons_succ, i64_w, i32_w]
       rfl
      refine done_ (done_of HT_.out (by kernel_rfl)) ?_
      try go_wp2
      go_meet
      case rel => exact ⟨_, (false), (by first | rfl | (simp; done) | (simp [*]; done)), H', ⟨by have := HK1.out; first | omega | exact Nat.le_refl _⟩, ⟨by (with_reducible repeat (first | refine qi ?_ _ | refine qk ?_ | refine qh ?_ _)); exact BK221.out⟩, ⟨by repeat (first | (with_reducible first | exact HB.out | apply qf | apply qc | apply qe | refine qg ?_ GE221.out) | exact HB.out)⟩⟩
    case rest =>
     clear HC5
     try clear p2
     try clear q2
     try clear hx2
     try clear c3
     try clear c4
     try clear c4b0
     try clear c6
     try clear c6b0
     try clear c7
     try clear c7b0
     try clear hx222_0
     try clear hx222_1
     try clear hx222_2
     try clear hx222_3
     try clear hx222_4
     try clear hx222_5
     try clear p2
     try clear p222
     try clear q222
     obtain ⟨kq, x22_4, rfl, HA, HJ4, BK221, HB⟩ := hcut
     cases kq with
     | zero => exact absurd HA.out (by simp [mimesisref29_find.j1])
     | succ kj4 =>
      have H := HA.out
      clear HA
      simp only [mimesisref29_find.j1] at H
      by_cases c12 : x22_4 = true
      ·subst c12
       have H1 : (if 0 ≤ x6_1 then (if x6_1 < (l0.length : Int) then (if ((ql l0 x6_1).f0) = 5 then (if a1_0 = 4 then (mimesisref29_find.l0 kj4 l0 (-1) (wrap64 (x6_1 + 1)) a1_0 a1_1 a1_2 a1_3 a1_4 a1_5) else (mimesisref29_find.l0 kj4 l0 x6_1 (wrap64 (x6_1 + 1)) a1_0 a1_1 a1_2 a1_3 a1_4 a1_5)) else (mimesisref29_find.l0 kj4 l0 x6_1 (wrap64 (x6_1 + 1)) a1_0 a1_1 a1_2 a1_3 a1_4 a1_5)) else (none)) else (none)) = some r := by rw [if_pos rfl] at H; exact H
       clear H
       have H := H1
       clear H1
       by_cases c13 : 0 ≤ x6_1
       ·rw [if_pos c13] at H
        have c13b0 : decide (0 ≤ x6_1) = true := decide_eq_true c13
        clear c13
        by_cases c14 : x6_1 < (l0.length : Int)
        ·rw [if_pos c14] at H
         have c14b0 : decide (x6_1 < (l0.length : Int)) = true := decide_eq_true c14
         clear c14
         by_cases c15 : ((ql l0 x6_1).f0) = 5
         ·rw [if_pos c15] at H
          have c15b0 : (((ql l0 x6_1).f0) == 5) = true := beq_iff_eq.mpr c15
          have c15b1 : (((ql l0 x6_1).f0) != 5) = false := bne_eq_false_iff_eq.mpr c15
          clear c15
          by_cases c16 : a1_0 = 4
          ·rw [if_pos c16] at H
           have c16b0 : (a1_0 == 4) = true := beq_iff_eq.mpr c16
           have c16b1 : (a1_0 != 4) = false := bne_eq_false_iff_eq.mpr c16
           clear c16
           have H' := Aside0.mk H
           clear H
           have p224 : 0 ≤ (x6_1 : Int) := of_decide_eq_true (by assumption)
           have q224 : x6_1 < (l0.length : Int) := of_decide_eq_true (by assumption)
           obtain ⟨ad224, e224, hx224_0, hx224_1, hx224_2, hx224_3, hx224_4, hx224_5⟩ := at_T59 HR0.out x6_1 p224 q224
           cases e224
           replace hx224_0 := (HB.out.cell (blc9 w _ hx224_0)).trans hx224_0
           replace hx224_1 := (HB.out.cell (blc9 w _ hx224_1)).trans hx224_1
           replace hx224_2 := (HB.out.cell (blc9 w _ hx224_2)).trans hx224_2
           replace hx224_3 := (HB.out.cell (blc9 w _ hx224_3)).trans hx224_3
           replace hx224_4 := (HB.out.cell (blc9 w _ hx224_4)).trans hx224_4
           replace hx224_5 := (HB.out.cell (blc9 w _ hx224_5)).trans hx224_5
           replace p224 := eq_true p224
           replace q224 := eq_true q224
           have hcz17_0 : wc.cell? ⟨gb221, 0, none⟩ = some (.int .i64 a1_0) := (qb BK221.out 0).trans rfl
           have hcz17_1 : wc.cell? ⟨gb221, 1, none⟩ = some (.int .i64 a1_1) := (qb BK221.out 1).trans rfl
           have hcz17_2 : wc.cell? ⟨gb221, 2, none⟩ = some (.int .i64 a1_2) := (qb BK221.out 2).trans rfl
           have hcz17_3 : wc.cell? ⟨gb221, 3, none⟩ = some (.int .u32 a1_3) := (qb BK221.out 3).trans rfl
           have hcz17_4 : wc.cell? ⟨gb221, 4, none⟩ = some (.int .i64 a1_4) := (qb BK221.out 4).trans rfl
           have hcz17_5 : wc.cell? ⟨gb221, 5, none⟩ = some (.int .i64 a1_5) := (qb BK221.out 5).trans rfl
           have hfz17_0 := qa BK221.out 0
           have hfz17_1 := qa BK221.out 1
           have hfz17_2 := qa BK221.out 2
           have hfz17_3 := qa BK221.out 3
           have hfz17_4 := qa BK221.out 4
           have hfz17_5 := qa BK221.out 5
           go_wp2
           go_roundg kj4
           case measure => have := HK1.out; have := HJ4.out; omega
           case rel => exact ⟨((-1)), (wrap64 (x6_1 + 1)), (by first | rfl | (simp; done) | (simp [*]; done)), (by first | rfl | (simp; done) | (simp [*]; done)), H', ⟨by have := HK1.out; have := HJ4.out; omega⟩, ⟨by (with_reducible repeat (first | refine qi ?_ _ | refine qk ?_ | refine qh ?_ _)); exact BK221.out⟩, ⟨by repeat (first | (with_reducible first | exact HB.out | apply qf | apply qc | apply qe | refine qg ?_ GE221.out) | exact HB.out)⟩⟩
          ·rw [if_neg c16] at H
           have c16b0 : (a1_0 == 4) = false := beq_eq_false_iff_ne.mpr c16
           have c16b1 : (a1_0 != 4) = true := bne_iff_ne.mpr c16
           have H' := Aside0.mk H
           clear H
           have p224 : 0 ≤ (x6_1 : Int) := of_decide_eq_true (by assumption)
           have q224 : x6_1 < (l0.length : Int) := of_decide_eq_true (by assumption)
           obtain ⟨ad224, e224, hx224_0, hx224_1, hx224_2, hx224_3, hx224_4, hx224_5⟩ := at_T59 HR0.out x6_1 p224 q224
           cases e224
           replace hx224_0 := (HB.out.cell (blc9 w _ hx224_0)).trans hx224_0
           replace hx224_1 := (HB.out.cell (blc9 w _ hx224_1)).trans hx224_1
           replace hx224_2 := (HB.out.cell (blc9 w _ hx224_2)).trans hx224_2
           replace hx224_3 := (HB.out.cell (blc9 w _ hx224_3)).trans hx224_3
           replace hx224_4 := (HB.out.cell (blc9 w _ hx224_4)).trans hx224_4
           replace hx224_5 := (HB.out.cell (blc9 w _ hx224_5)).trans hx224_5
           replace p224 := eq_true p224
           replace q224 := eq_true q224
           have hcz18_0 : wc.cell? ⟨gb221, 0, none⟩ = some (.int .i64 a1_0) := (qb BK221.out 0).trans rfl
           have hcz18_1 : wc.cell? ⟨gb221, 1, none⟩ = some (.int .i64 a1_1) := (qb BK221.out 1).trans rfl
           have hcz18_2 : wc.cell? ⟨gb221, 2, none⟩ = some (.int .i64 a1_2) := (qb BK221.out 2).trans rfl
           have hcz18_3 : wc.cell? ⟨gb221, 3, none⟩ = some (.int .u32 a1_3) := (qb BK221.out 3).trans rfl
           have hcz18_4 : wc.cell? ⟨gb221, 4, none⟩ = some (.int .i64 a1_4) := (qb BK221.out 4).trans rfl
           have hcz18_5 : wc.cell? ⟨gb221, 5, none⟩ = some (.int .i64 a1_5) := (qb BK221.out 5).trans rfl
           have hfz18_0 := qa BK221.out 0
           have hfz18_1 := qa BK221.out 1
           have hfz18_2 := qa BK221.out 2
           have hfz18_3 := qa BK221.out 3
           have hfz18_4 := qa BK221.out 4
           have hfz18_5 := qa BK221.out 5
           go_wp2
           go_roundg kj4
           case measure => have := HK1.out; have := HJ4.out; omega
           case rel => exact ⟨(x6_1), (wrap64 (x6_1 + 1)), (by first | rfl | (simp; done) | (simp [*]; done)), (by first | rfl | (simp; done) | (simp [*]; done)), H', ⟨by have := HK1.out; have := HJ4.out; omega⟩, ⟨by (with_reducible repeat (first | refine qi ?_ _ | refine qk ?_ | refine qh ?_ _)); exact BK221.out⟩, ⟨by repeat (first | (with_reducible first | exact HB.out | apply qf | apply qc | apply qe | refine qg ?_ GE221.out) | exact HB.out)⟩⟩
         ·rw [if_neg c15] at H
          have c15b0 : (((ql l0 x6_1).f0) == 5) = false := beq_eq_false_iff_ne.mpr c15
          have c15b1 : (((ql l0 x6_1).f0) != 5) = true := bne_iff_ne.mpr c15
          have H' := Aside0.mk H
          clear H
          have p224 : 0 ≤ (x6_1 : Int) := of_decide_eq_true (by assumption)
          have q224 : x6_1 < (l0.length : Int) := of_decide_eq_true (by assumption)
          obtain ⟨ad224, e224, hx224_0, hx224_1, hx224_2, hx224_3, hx224_4, hx224_5⟩ := at_T59 HR0.out x6_1 p224 q224
          cases e224
          replace hx224_0 := (HB.out.cell (blc9 w _ hx224_0)).trans hx224_0
          replace hx224_1 := (HB.out.cell (blc9 w _ hx224_1)).trans hx224_1
          replace hx224_2 := (HB.out.cell (blc9 w _ hx224_2)).trans hx224_2
          replace hx224_3 := (HB.out.cell (blc9 w _ hx224_3)).trans hx224_3
          replace hx224_4 := (HB.out.cell (blc9 w _ hx224_4)).trans hx224_4
          replace hx224_5 := (HB.out.cell (blc9 w _ hx224_5)).trans hx224_5
          replace p224 := eq_true p224
          replace q224 := eq_true q224
          go_wp2
          go_roundg kj4
          case measure => have := HK1.out; have := HJ4.out; omega
          case rel => exact ⟨(x6_1), (wrap64 (x6_1 + 1)), (by first | rfl | (simp; done) | (simp [*]; done)), (by first | rfl | (simp; done) | (simp [*]; done)), H', ⟨by have := HK1.out; have := HJ4.out; omega⟩, ⟨by (with_reducible repeat (first | refine qi ?_ _ | refine qk ?_ | refine qh ?_ _)); exact BK221.out⟩, ⟨by repeat (first | (with_reducible first | exact HB.out | apply qf | apply qc | apply qe | refine qg ?_ GE221.out) | exact HB.out)⟩⟩
        ·rw [if_neg c14] at H
         exact absurd H (by simp)
       ·rw [if_neg c13] at H
        exact absurd H (by simp)
      ·replace c12 := Bool.eq_false_iff.mpr c12
       subst c12
       have H1 : (if 0 ≤ x6_1 then (if x6_1 < (l0.length : Int) then (if ((ql l0 x6_1).f0) = 5 then (if a1_0 = 4 then (mimesisref29_find.l0 kj4 l0 (-1) (wrap64 (x6_1 + 1)) a1_0 a1_1 a1_2 a1_3 a1_4 a1_5) else (mimesisref29_find.l0 kj4 l0 x5_1 (wrap64 (x6_1 + 1)) a1_0 a1_1 a1_2 a1_3 a1_4 a1_5)) else (mimesisref29_find.l0 kj4 l0 x5_1 (wrap64 (x6_1 + 1)) a1_0 a1_1 a1_2 a1_3 a1_4 a1_5)) else (none)) else (none)) = some r := by rw [if_neg (show ¬ (false = true) by decide)] at H; exact H
       clear H
       have H := H1
       clear H1
       by_cases c19 : 0 ≤ x6_1
       ·rw [if_pos c19] at H
        have c19b0 : decide (0 ≤ x6_1) = true := decide_eq_true c19
        clear c19
        by_cases c20 : x6_1 < (l0.length : Int)
        ·rw [if_pos c20] at H
         have c20b0 : decide (x6_1 < (l0.length : Int)) = true := decide_eq_true c20
         clear c20
         by_cases c21 : ((ql l0 x6_1).f0) = 5
         ·rw [if_pos c21] at H
          have c21b0 : (((ql l0 x6_1).f0) == 5) = true := beq_iff_eq.mpr c21
          have c21b1 : (((ql l0 x6_1).f0) != 5) = false := bne_eq_false_iff_eq.mpr c21
          clear c21
          by_cases c22 : a1_0 = 4
          ·rw [if_pos c22] at H
           have c22b0 : (a1_0 == 4) = true := beq_iff_eq.mpr c22
           have c22b1 : (a1_0 != 4) = false := bne_eq_false_iff_eq.mpr c22
           clear c22
           have H' := Aside0.mk H
           clear H
           have p225 : 0 ≤ (x6_1 : Int) := of_decide_eq_true (by assumption)
           have q225 : x6_1 < (l0.length : Int) := of_decide_eq_true (by assumption)
           obtain ⟨ad225, e225, hx225_0, hx225_1, hx225_2, hx225_3, hx225_4, hx225_5⟩ := at_T59 HR0.out x6_1 p225 q225
           cases e225
           replace hx225_0 := (HB.out.cell (blc9 w _ hx225_0)).trans hx225_0
           replace hx225_1 := (HB.out.cell (blc9 w _ hx225_1)).trans hx225_1
           replace hx225_2 := (HB.out.cell (blc9 w _ hx225_2)).trans hx225_2
           replace hx225_3 := (HB.out.cell (blc9 w _ hx225_3)).trans hx225_3
           replace hx225_4 := (HB.out.cell (blc9 w _ hx225_4)).trans hx225_4
           replace hx225_5 := (HB.out.cell (blc9 w _ hx225_5)).trans hx225_5
           replace p225 := eq_true p225
           replace q225 := eq_true q225
           have hcz23_0 : wc.cell? ⟨gb221, 0, none⟩ = some (.int .i64 a1_0) := (qb BK221.out 0).trans rfl
           have hcz23_1 : wc.cell? ⟨gb221, 1, none⟩ = some (.int .i64 a1_1) := (qb BK221.out 1).trans rfl
           have hcz23_2 : wc.cell? ⟨gb221, 2, none⟩ = some (.int .i64 a1_2) := (qb BK221.out 2).trans rfl
           have hcz23_3 : wc.cell? ⟨gb221, 3, none⟩ = some (.int .u32 a1_3) := (qb BK221.out 3).trans rfl
           have hcz23_4 : wc.cell? ⟨gb221, 4, none⟩ = some (.int .i64 a1_4) := (qb BK221.out 4).trans rfl
           have hcz23_5 : wc.cell? ⟨gb221, 5, none⟩ = some (.int .i64 a1_5) := (qb BK221.out 5).trans rfl
           have hfz23_0 := qa BK221.out 0
           have hfz23_1 := qa BK221.out 1
           have hfz23_2 := qa BK221.out 2
           have hfz23_3 := qa BK221.out 3
           have hfz23_4 := qa BK221.out 4
           have hfz23_5 := qa BK221.out 5
           go_wp2
           go_roundg kj4
           case measure => have := HK1.out; have := HJ4.out; omega
           case rel => exact ⟨((-1)), (wrap64 (x6_1 + 1)), (by first | rfl | (simp; done) | (simp [*]; done)), (by first | rfl | (simp; done) | (simp [*]; done)), H', ⟨by have := HK1.out; have := HJ4.out; omega⟩, ⟨by (with_reducible repeat (first | refine qi ?_ _ | refine qk ?_ | refine qh ?_ _)); exact BK221.out⟩, ⟨by repeat (first | (with_reducible first | exact HB.out | apply qf | apply qc | apply qe | refine qg ?_ GE221.out) | exact HB.out)⟩⟩
          ·rw [if_neg c22] at H
           have c22b0 : (a1_0 == 4) = false := beq_eq_false_iff_ne.mpr c22
           have c22b1 : (a1_0 != 4) = true := bne_iff_ne.mpr c22
           have H' := Aside0.mk H
           clear H
           have p225 : 0 ≤ (x6_1 : Int) := of_decide_eq_true (by assumption)
           have q225 : x6_1 < (l0.length : Int) := of_decide_eq_true (by assumption)
           obtain ⟨ad225, e225, hx225_0, hx225_1, hx225_2, hx225_3, hx225_4, hx225_5⟩ := at_T59 HR0.out x6_1 p225 q225
           cases e225
           replace hx225_0 := (HB.out.cell (blc9 w _ hx225_0)).trans hx225_0
           replace hx225_1 := (HB.out.cell (blc9 w _ hx225_1)).trans hx225_1
           replace hx225_2 := (HB.out.cell (blc9 w _ hx225_2)).trans hx225_2
           replace hx225_3 := (HB.out.cell (blc9 w _ hx225_3)).trans hx225_3
           replace hx225_4 := (HB.out.cell (blc9 w _ hx225_4)).trans hx225_4
           replace hx225_5 := (HB.out.cell (blc9 w _ hx225_5)).trans hx225_5
           replace p225 := eq_true p225
           replace q225 := eq_true q225
           have hcz24_0 : wc.cell? ⟨gb221, 0, none⟩ = some (.int .i64 a1_0) := (qb BK221.out 0).trans rfl
           have hcz24_1 : wc.cell? ⟨gb221, 1, none⟩ = some (.int .i64 a1_1) := (qb BK221.out 1).trans rfl
           have hcz24_2 : wc.cell? ⟨gb221, 2, none⟩ = some (.int .i64 a1_2) := (qb BK221.out 2).trans rfl
           have hcz24_3 : wc.cell? ⟨gb221, 3, none⟩ = some (.int .u32 a1_3) := (qb BK221.out 3).trans rfl
           have hcz24_4 : wc.cell? ⟨gb221, 4, none⟩ = some (.int .i64 a1_4) := (qb BK221.out 4).trans rfl
           have hcz24_5 : wc.cell? ⟨gb221, 5, none⟩ = some (.int .i64 a1_5) := (qb BK221.out 5).trans rfl
           have hfz24_0 := qa BK221.out 0
           have hfz24_1 := qa BK221.out 1
           have hfz24_2 := qa BK221.out 2
           have hfz24_3 := qa BK221.out 3
           have hfz24_4 := qa BK221.out 4
           have hfz24_5 := qa BK221.out 5
           go_wp2
           go_roundg kj4
           case measure => have := HK1.out; have := HJ4.out; omega
           case rel => exact ⟨(x5_1), (wrap64 (x6_1 + 1)), (by first | rfl | (simp; done) | (simp [*]; done)), (by first | rfl | (simp; done) | (simp [*]; done)), H', ⟨by have := HK1.out; have := HJ4.out; omega⟩, ⟨by (with_reducible repeat (first | refine qi ?_ _ | refine qk ?_ | refine qh ?_ _)); exact BK221.out⟩, ⟨by repeat (first | (with_reducible first | exact HB.out | apply qf | apply qc | apply qe | refine qg ?_ GE221.out) | exact HB.out)⟩⟩
         ·rw [if_neg c21] at H
          have c21b0 : (((ql l0 x6_1).f0) == 5) = false := beq_eq_false_iff_ne.mpr c21
          have c21b1 : (((ql l0 x6_1).f0) != 5) = true := bne_iff_ne.mpr c21
          have H' := Aside0.mk H
          clear H
          have p225 : 0 ≤ (x6_1 : Int) := of_decide_eq_true (by assumption)
          have q225 : x6_1 < (l0.length : Int) := of_decide_eq_true (by assumption)
          obtain ⟨ad225, e225, hx225_0, hx225_1, hx225_2, hx225_3, hx225_4, hx225_5⟩ := at_T59 HR0.out x6_1 p225 q225
          cases e225
          replace hx225_0 := (HB.out.cell (blc9 w _ hx225_0)).trans hx225_0
          replace hx225_1 := (HB.out.cell (blc9 w _ hx225_1)).trans hx225_1
          replace hx225_2 := (HB.out.cell (blc9 w _ hx225_2)).trans hx225_2
          replace hx225_3 := (HB.out.cell (blc9 w _ hx225_3)).trans hx225_3
          replace hx225_4 := (HB.out.cell (blc9 w _ hx225_4)).trans hx225_4
          replace hx225_5 := (HB.out.cell (blc9 w _ hx225_5)).trans hx225_5
          replace p225 := eq_true p225
          replace q225 := eq_true q225
          go_wp2
          go_roundg kj4
          case measure => have := HK1.out; have := HJ4.out; omega
          case rel => exact ⟨(x5_1), (wrap64 (x6_1 + 1)), (by first | rfl | (simp; done) | (simp [*]; done)), (by first | rfl | (simp; done) | (simp [*]; done)), H', ⟨by have := HK1.out; have := HJ4.out; omega⟩, ⟨by (with_reducible repeat (first | refine qi ?_ _ | refine qk ?_ | refine qh ?_ _)); exact BK221.out⟩, ⟨by repeat (first | (with_reducible first | exact HB.out | apply qf | apply qc | apply qe | refine qg ?_ GE221.out) | exact HB.out)⟩⟩
        ·rw [if_neg c20] at H
         exact absurd H (by simp)
       ·rw [if_neg c19] at H
        exact absurd H (by simp)
   ·rw [if_neg c4] at H
    have c4b0 : decide (x6_1 < (l0.length : Int)) = false := decide_eq_false c4
    clear c4
    obtain rfl := Option.some.inj H
    go_wp2
    go_ret
    exact ⟨by first | rfl | (simp [qm, qn] <;> rfl) | (simp [*, qm, qn] <;> rfl), by repeat (first | (with_reducible first | exact HB.out | apply qf | apply qc | apply qe | refine qg ?_ GE221.out) | exact HB.out)⟩

end Go.Proofs.Ytlnbghhhifnbdaa.PNumberDoes
