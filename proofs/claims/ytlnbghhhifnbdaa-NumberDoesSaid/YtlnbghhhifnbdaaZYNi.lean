/- The walk of the law NumberDoes: it returns true. Conditions: the lists read as the given ones. -/
import Derived.Test.YtlnbghhhifnbdaaZYNh
import Derived.Test.YtlnbghhhifnbdaaZYGz
import Derived.Test.YtlnbghhhifnbdaaZYTz
namespace Go.Proofs.Ytlnbghhhifnbdaa
open Go.RowKit Go.Proofs.YtlnbghhhifnbdaaW.PrintWords Go.Proofs.YtlnbghhhifnbdaaW.PrintLast Go.Proofs.YtlnbghhhifnbdaaW.PrintMore Go.Proofs.Ytlnbghhhifnbdaa.PNumberDoes
set_option linter.unusedVariables false
set_option linter.unusedSimpArgs false

theorem num_blk (pcs : List Int) (ops : List S59) (exits : List S64) (last : Int) : numB alikeB (blkOf pcs ops exits last) = blkOf pcs ((runN alikeB (ops.map opOf)).1.map opBk) (exits.map (exR (runN alikeB (ops.map opOf)).2)) last := by
 show (⟨pcs, (runN alikeB (ops.map opOf)).1, (exits.map exitOf).map (exN (runN alikeB (ops.map opOf)).2), last⟩ : BlkV) = ⟨pcs, ((runN alikeB (ops.map opOf)).1.map opBk).map opOf, (exits.map (exR (runN alikeB (ops.map opOf)).2)).map exitOf, last⟩
 rw [bk_of, List.map_map, List.map_map]
 congr 1
 exact List.map_congr_left fun x _ => (exR_of _ x).symm
theorem light_num (pcs : List Int) (ops : List S59) (exits : List S64) (hL : lightB pcs ops exits = true) : lightB pcs ((runN alikeB (ops.map opOf)).1.map opBk) (exits.map (exR (runN alikeB (ops.map opOf)).2)) = true := by
 obtain ⟨a, b, c, d, -⟩ := light_maps pcs ops exits hL
 have h := (runN_len alikeB (ops.map opOf)).2.1
 rw [List.length_map] at h
 unfold lightB
 simp only [Bool.and_eq_true, decide_eq_true_eq, List.all_eq_true, List.length_map]
 refine ⟨a, by omega, c, fun x hx => ?_⟩
 obtain ⟨y, hy, rfl⟩ := List.mem_map.1 hx
 show (y.f4.map _).length ≤ 100
 rw [List.length_map]
 exact d y hy
theorem rsame_n (A0 A1 A2 D0 D1 D2 : Option Addr) (c0 c1 c2 d0 d1 d2 : Nat) (last : Int) (pcs : List Int) (ops : List S59) (exits : List S64) (lp lo le : Nat) (hp : pcs.length = lp) (ho : ops.length = lo) (he : exits.length = le) (hL : lightB pcs ops exits = true) (w : World)
  (hk : Hid ((Kd.int .u32).C w D0 lp pcs ∧ k59.C w D1 lo ops ∧ k64.C w D2 le exits)) (h : Hid ((Kd.int .u32).C w A0 lp pcs ∧ k59.C w A1 lo ops ∧ k64.C w A2 le exits)) :
  Calls Try.prog 23 #[.agg #[.slice D0 lp d0, .slice D1 lo d1, .slice D2 le d2, .int .i64 last], .agg #[.slice A0 lp c0, .slice A1 lo c1, .slice A2 le c2, .int .i64 last]] w fun e w' => e = .returned (.bool true) ∧ Below w.heap.size w w' := by
 subst hp ho he
 obtain ⟨a, b, c, d, -⟩ := light_maps pcs ops exits hL
 have dm : ∀ x ∈ exits, x.f4.length ≤ 1000000 := fun x hx => by have := d x hx; omega
 refine (rsame_c D0 D1 D2 A0 A1 A2 d0 d1 d2 c0 c1 c2 last last pcs pcs ops ops exits exits (by omega) (by omega) (by omega) dm dm w hk.out.1 hk.out.2.1 hk.out.2.2 h.out.1 h.out.2.1 h.out.2.2).mono ?_
 rintro e w' ⟨hr, hb⟩
 refine ⟨?_, hb⟩
 rw [SameR.dec hr, decG_yes ⟨rfl, rfl, rfl, rfl⟩]
set_option maxHeartbeats 8000000 in
set_option maxRecDepth 100000 in
theorem numberdoes_c (A0 A1 A2 : Option Addr) (c0 c1 c2 : Nat) (last : Int) (pcs : List Int) (ops : List S59) (exits : List S64) (w : World) (h : ArgB w A0 A1 A2 c0 c1 c2 pcs ops exits) :
  Calls Try.prog 6 #[.agg #[.slice A0 pcs.length c0, .slice A1 ops.length c1, .slice A2 exits.length c2, .int .i64 last]] w fun e w' => e = .returned (.bool true) ∧ Below w.heap.size w w' := by
 have HLI := Lib.hid (fun v (hb : Below w.heap.size w v) => light_c A0 A1 A2 c0 c1 c2 last pcs ops exits v (h.below hb))
 have HAW := Lib.hid (fun v => awake29_c v)
 rcases Bool.eq_false_or_eq_true (lightB pcs ops exits) with hL | hL
 case inr =>
  rw [hL] at HLI
  clear h hL
  go_enter Try.func6, Try.ntmps6
  go_wp2_with fail
  refine (HLI.out _ (bal (Below.refl _ _) _)).mono ?_
  rintro e w1 ⟨rfl, hb1⟩
  have HB1 := Lib.hid (bthen (bal (Below.refl w.heap.size w) _) hb1)
  clear hb1 HLI
  go_wp2_with fail
  refine (HAW.out _).mono ?_
  rintro e w2 ⟨rfl, hb2⟩
  have HB2 := Lib.hid (bthen HB1.out hb2)
  clear hb2
  go_wp2
  go_ret
  exact ⟨rfl, HB2.out⟩
 have HOW := Lib.hid (fun v (hb : Below w.heap.size w v) => own_a A0 A1 A2 c0 c1 c2 last pcs ops exits hL v (h.below hb))
 have HRC := Lib.hid (fun v (hb : Below w.heap.size w v) => rcheck_c A0 A1 A2 c0 c1 c2 last pcs ops exits hL v (h.below hb))
 obtain ⟨m1, m2, m3, m4⟩ := blk_maps pcs ops exits last hL
 have sB := small_of pcs ops exits last hL
 rcases Classical.em (checkB (blkOf pcs ops exits last) = 0) with hK | hK
 case inr =>
  have HDN := Lib.hid (fun g v (hB : BlockAt v g (blkOf pcs ops exits last)) => numdo_no _ g v hB m1 m2 m3 m4 hK)
  have t1 : (checkB (blkOf pcs ops exits last) != 0) = true := bne_iff_ne.2 hK
  rw [hL] at HLI
  clear h hL m1 m2 m3 m4 sB hK
  generalize pcs.length = lp at *
  generalize ops.length = lo at *
  generalize exits.length = le at *
  generalize blkOf pcs ops exits last = B at *
  generalize checkB B = c at *
  go_enter Try.func6, Try.ntmps6
  go_wp2_with fail
  refine (HLI.out _ (bal (Below.refl _ _) _)).mono ?_
  rintro e w1 ⟨rfl, hb1⟩
  have d0 := cellk hb1 (a := ⟨w.heap.size, 0, none⟩) (v := .slice A0 lp c0) (by simp [go_sem])
  have d1 := cellk hb1 (a := ⟨w.heap.size, 1, none⟩) (v := .slice A1 lo c1) (by simp [go_sem])
  have d2 := cellk hb1 (a := ⟨w.heap.size, 2, none⟩) (v := .slice A2 le c2) (by simp [go_sem])
  have d3 := cellk hb1 (a := ⟨w.heap.size, 3, none⟩) (v := .int .i64 last) (by simp [go_sem])
  have HB1 := Lib.hid (bthen (bal (Below.refl w.heap.size w) _) hb1)
  clear hb1 HLI
  go_wp2_with fail
  refine (HOW.out _ HB1.out).mono ?_
  rintro e w2 ⟨rfl, hB2, hb2⟩
  have HX2 := Lib.hid hB2
  have HB2 := Lib.hid (bthen HB1.out hb2)
  replace d0 := cellk hb2 d0
  replace d1 := cellk hb2 d1
  replace d2 := cellk hb2 d2
  replace d3 := cellk hb2 d3
  clear hb2 hB2 HB1 HOW
  go_wp2_with fail
  refine (HDN.out _ _ HX2.out).mono ?_
  rintro e w3 ⟨rfl, hb3⟩
  have HB3 := Lib.hid (bthen HB2.out hb3)
  replace d0 := cellk hb3 d0
  replace d1 := cellk hb3 d1
  replace d2 := cellk hb3 d2
  replace d3 := cellk hb3 d3
  clear hb3 HB2 HX2 HDN
  go_wp2_with fail
  refine (HRC.out _ HB3.out).mono ?_
  rintro e w4 ⟨rfl, hb4⟩
  have HB4 := Lib.hid (bthen HB3.out hb4)
  clear hb4 HB3 HRC d0 d1 d2 d3
  go_wp2_with fail
  refine (HAW.out _).mono ?_
  rintro e w5 ⟨rfl, hb5⟩
  have HB5 := Lib.hid (bthen HB4.out hb5)
  clear hb5
  go_wp2
  go_ret
  exact ⟨rfl, HB5.out⟩
 have HDY := Lib.hid (fun g v (hB : BlockAt v g (blkOf pcs ops exits last)) => numdo_yes _ g v hB m1 sB hK)
 have HRD := Lib.hid (fun v (hb : Below w.heap.size w v) => rdo_c A0 A1 A2 c0 c1 c2 last pcs ops exits hL hK v (h.below hb))
 have hLn := light_num pcs ops exits hL
 have HSA := Lib.hid (fun D0 D1 D2 d0 d1 d2 v (hk : Hid ((Kd.int .u32).C v D0 pcs.length pcs ∧ k59.C v D1 ops.length ops ∧ k64.C v D2 exits.length exits)) (hv : Below w.heap.size w v) => rsame_a A0 A1 A2 D0 D1 D2 c0 c1 c2 d0 d1 d2 last pcs ops exits hL v hk (h.below hv))
 have HBK := Lib.hid (fun g v (hB : BlockAt v g (blkOf pcs ops exits last)) => back_a pcs ops exits last hL g v hB)
 have hnb := num_blk pcs ops exits last
 have e1 : ((runN alikeB (ops.map opOf)).1.map opBk).length = (runN alikeB (ops.map opOf)).1.length := List.length_map _
 have e2 : (exits.map (exR (runN alikeB (ops.map opOf)).2)).length = exits.length := List.length_map _
 have HBN := Lib.hid (fun g v (hB : BlockAt v g (numB alikeB (blkOf pcs ops exits last))) => back_a pcs _ _ last hLn g v (hnb ▸ hB))
 have HSN := Lib.hid (fun A0 A1 A2 D0 D1 D2 c0 c1 c2 d0 d1 d2 v => rsame_n A0 A1 A2 D0 D1 D2 c0 c1 c2 d0 d1 d2 last pcs _ _ pcs.length (runN alikeB (ops.map opOf)).1.length exits.length rfl e1 e2 hLn v)
 rw [e1, e2] at HBN
 rw [hL] at HLI
 rw [hK] at HRC
 clear h hL hK m1 m2 m3 m4 sB hLn hnb e1 e2
 generalize numB alikeB (blkOf pcs ops exits last) = Bn at *
 generalize (runN alikeB (ops.map opOf)).1.map opBk = L at *
 generalize exits.map (exR (runN alikeB (ops.map opOf)).2) = E at *
 generalize (runN alikeB (ops.map opOf)).1.length = ln at *
 generalize pcs.length = lp at *
 generalize ops.length = lo at *
 generalize exits.length = le at *
 generalize blkOf pcs ops exits last = B at *
 go_enter Try.func6, Try.ntmps6
 go_wp2_with fail
 refine (HLI.out _ (bal (Below.refl _ _) _)).mono ?_
 rintro e w1 ⟨rfl, hb1⟩
 have d0 := cellk hb1 (a := ⟨w.heap.size, 0, none⟩) (v := .slice A0 lp c0) (by simp [go_sem])
 have d1 := cellk hb1 (a := ⟨w.heap.size, 1, none⟩) (v := .slice A1 lo c1) (by simp [go_sem])
 have d2 := cellk hb1 (a := ⟨w.heap.size, 2, none⟩) (v := .slice A2 le c2) (by simp [go_sem])
 have d3 := cellk hb1 (a := ⟨w.heap.size, 3, none⟩) (v := .int .i64 last) (by simp [go_sem])
 have HB1 := Lib.hid (bthen (bal (Below.refl w.heap.size w) _) hb1)
 clear hb1 HLI
 go_wp2_with fail
 refine (HOW.out _ HB1.out).mono ?_
 rintro e w2 ⟨rfl, hB2, hb2⟩
 have HX2 := Lib.hid hB2
 have HB2 := Lib.hid (bthen HB1.out hb2)
 replace d0 := cellk hb2 d0
 replace d1 := cellk hb2 d1
 replace d2 := cellk hb2 d2
 replace d3 := cellk hb2 d3
 clear hb2 hB2 HB1 HOW
 generalize hN0 : w1.heap.size = N0 at *
 go_wp2_with fail
 refine (HDY.out _ _ HX2.out).mono ?_
 rintro e w3 ⟨⟨gc, rfl, hBn⟩, hb3⟩
 have HB3 := Lib.hid (bthen HB2.out hb3)
 have HX3 := Lib.hid (HX2.out.below hb3)
 have HN3 := Lib.hid hBn
 replace d0 := cellk hb3 d0
 replace d1 := cellk hb3 d1
 replace d2 := cellk hb3 d2
 replace d3 := cellk hb3 d3
 clear hb3 hBn HB2 HX2 HDY
 go_wp2_with fail
 refine (HRC.out _ HB3.out).mono ?_
 rintro e w4 ⟨rfl, hb4⟩
 have HB4 := Lib.hid (bthen HB3.out hb4)
 have HX4 := Lib.hid (HX3.out.below hb4)
 have HN4 := Lib.hid (HN3.out.below hb4)
 replace d0 := cellk hb4 d0
 replace d1 := cellk hb4 d1
 replace d2 := cellk hb4 d2
 replace d3 := cellk hb4 d3
 clear hb4 HB3 HX3 HN3 HRC
 go_wp2
 refine wp_region_fc (by kernel_rfl) (by kernel_rfl) [.is (.int .i64 0), .is (.bool true), .is (.bool true), .is (.pointer (some ⟨gc, 0, none⟩)), .any (AggB lp ln le pcs L E last) AggB.keep, .is (.agg #[.slice A0 lp c0, .slice A1 lo c1, .slice A2 le c2, .int .i64 last]), .any (AggB lp ln le pcs L E last) AggB.keep, .is (.bool true), .is (.bool true), .is (.bool true),
  .is (.pointer (some ⟨N0 + 1, 0, none⟩)), .any (AggB lp lo le pcs ops exits last) AggB.keep, .is (.agg #[.slice A0 lp c0, .slice A1 lo c1, .slice A2 le c2, .int .i64 last]), .is (.bool true), .is (.bool true), .is (.bool true), .is (.bool true), .is (.bool true), .is (.bool true)] ?_ ?_
 ·intro vs w' hb'
  have x0 := cellk hb' d0
  have x1 := cellk hb' d1
  have x2 := cellk hb' d2
  have x3 := cellk hb' d3
  have HBW := Lib.hid (bthen HB4.out hb')
  have HX := Lib.hid (HX4.out.below hb')
  have HN := Lib.hid (HN4.out.below hb')
  clear d0 d1 d2 d3 HB4 HX4 HN4 hb'
  simp only [factSteps, putAll, Act.put, List.setIfInBounds_toArray, List.set_cons_zero, List.set_cons_succ, Nat.zero_add, Nat.reduceAdd]
  refine ⟨?_, ?_, ?_, ?_, ?_, ?_, ?_, ?_, ?_, ?_, ?_, ?_, ?_, ?_, ?_, ?_, ?_, ?_, ?_, trivial⟩
  all_goals
   intro he
   simp only [factEdges, Region.binds, List.getD_cons_zero, List.getD_cons_succ, Fc.holds, true_implies, and_true] at he
   try simp only [and_self] at he
   first | (obtain ⟨⟨Z0, Z1, Z2, z0, z1, z2, hv, hk⟩, ⟨Y0, Y1, Y2, y0, y1, y2, hv2, hk2⟩, -, hg2⟩ : AggB lp ln le pcs L E last (vs 4) w' ∧ AggB lp ln le pcs L E last (vs 6) w' ∧ _ ∧ vs 2 = _ := he; simp only [hv, hv2, hg2]) | (obtain ⟨⟨Z0, Z1, Z2, z0, z1, z2, hv, hk⟩, h12, -, hg2⟩ : AggB lp lo le pcs ops exits last (vs 11) w' ∧ vs 12 = _ ∧ _ ∧ vs 9 = _ := he; simp only [hv, h12, hg2]) | (simp only [he]) | skip
   go_wp2_with (first | (go_at_call 17; (first | (with_reducible refine Calls.mono (HBN.out _ _ HN.out) ?_) | (with_reducible refine Calls.mono (HBK.out _ _ HX.out) ?_)); rintro e w5 ⟨⟨v5, rfl, hv5⟩, hb5⟩) | (go_at_call 29; with_reducible refine Calls.mono (HRD.out _ HBW.out) ?_; rintro e w5 ⟨⟨v5, rfl, hv5⟩, hb5⟩) | (go_at_call 23; (first | (with_reducible refine Calls.mono (HSN.out _ _ _ _ _ _ _ _ _ _ _ _ _ hk hk2) ?_) | (with_reducible refine Calls.mono (HSA.out _ _ _ _ _ _ _ hk HBW.out) ?_)); rintro e w5 ⟨rfl, hb5⟩) | (go_at_call 27; with_reducible refine Calls.mono (HAW.out _) ?_; rintro e w5 ⟨rfl, hb5⟩))
   first
    | exact ⟨rfl, Below.refl _ _⟩
    | exact ⟨(show AggB lp ln le pcs L E last _ _ from hv5), hb5⟩
    | exact (show AggB lp ln le pcs L E last _ _ from hv5)
    | exact ⟨(show AggB lp lo le pcs ops exits last _ _ from hv5), hb5⟩
    | exact (show AggB lp lo le pcs ops exits last _ _ from hv5)
    | exact ⟨rfl, hb5⟩
    | exact hb5
    | exact Below.refl _ _
    | exact rfl
    | (trace_state; skip)
 ·intro vs w5 hb5 hall
  simp only [factSteps, List.getD_cons_zero, List.getD_cons_succ, Fc.holds, and_true] at hall
  obtain ⟨-, -, -, -, -, -, -, -, -, -, -, -, -, -, -, -, -, -, e18⟩ := hall
  simp only [putAll, Act.put, List.setIfInBounds_toArray, List.set_cons_zero, List.set_cons_succ, Nat.zero_add, Nat.reduceAdd, e18]
  have HB5 := Lib.hid (bthen HB4.out hb5)
  clear hb5
  go_wp2
  go_ret
  exact ⟨rfl, HB5.out⟩
end Go.Proofs.Ytlnbghhhifnbdaa
