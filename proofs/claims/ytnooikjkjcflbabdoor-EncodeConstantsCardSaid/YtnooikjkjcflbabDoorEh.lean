/- The walk of the law EncodeConstants: it returns true. Conditions: numbers are of their kinds; the listed variables hold what the program's text lays in them. -/
import Derived.Test.YtnooikjkjcflbabDoorEg
namespace Go.Proofs.YtnooikjkjcflbabDoor
open Go.RowKit
set_option linter.unusedVariables false
set_option linter.unusedSimpArgs false

set_option maxHeartbeats 16000000 in
set_option maxRecDepth 100000 in
theorem econst_two (rd n hi lo : Int) (hr : 0 ≤ rd ∧ rd ≤ 31) (hsum : (hi + lo) % 4294967296 = n) (hh : 0 ≤ hi ∧ hi ≤ 4294967295) (hl : 0 ≤ lo ∧ lo ≤ 4294967295) (W : World) (hf : FormsIs W) (hm : MatchesIs W)
    (h1 : Hid (Calls Tryd.prog 34 #[.int .i64 rd, .int .u32 n] W fun e w' => (∃ g cap, e = .returned (.tuple #[.slice (some ⟨g, 0, none⟩) 2 cap, .int .i64 0]) ∧ At6 w' g 0 1 rd 0 0 hi 0 ∧ At6 w' g 6 19 rd rd 0 lo 0) ∧ Below W.heap.size W w'))
    (h2 : Hid (∀ v, Calls Tryd.prog 35 #[.int .i64 rd, .int .u32 n] v fun e w' => (∃ g cap, e = .returned (.slice (some ⟨g, 0, none⟩) 2 cap) ∧ At6 w' g 0 1 rd 0 0 hi 0 ∧ At6 w' g 6 19 rd rd 0 lo 0) ∧ Below v.heap.size v w')) :
    Calls Tryd.prog 7 #[.int .i64 rd, .int .u32 n] W fun e w' => e = .returned (.bool true) ∧ Below W.heap.size W w' := by
  have HF := Lib.hid hf
  have HM := Lib.hid hm
  obtain ⟨r0, r1⟩ := hr
  obtain ⟨hh0, hh1⟩ := hh
  obtain ⟨hl0, hl1⟩ := hl
  subst hsum
  clear hf hm
  by_cases hz : rd = 0 <;> by_cases hq : lo = (hi + lo) % 4294967296
  all_goals
    first | (have k1 := yb hq) | (have k1 := nb hq)
    clear hq
    first | subst hz | (have k2 := nb hz)
    go_enter Tryd.func7, Tryd.ntmps7
    go_wp2_with fail
    refine h1.out.mono ?_
    rintro e w1 ⟨⟨g, cap, rfl, hat, hau⟩, hb1⟩
    have HAT := Lib.hid hat
    have HAU := Lib.hid hau
    have HB1 := Lib.hid hb1
    clear hat hau hb1
    go_wp2_with fail
    refine (h2.out _).mono ?_
    rintro e w2 ⟨⟨g', cap', rfl, hat', hau'⟩, hb2⟩
    have hat := at6_below HAT.out hb2
    have hau := at6_below HAU.out hb2
    have HB2 := Lib.hid (bthen HB1.out hb2)
    clear hb2 HAT HAU
    obtain ⟨a0, a1, a2, a3, a4, a5⟩ := hat
    obtain ⟨b0, b1, b2, b3, b4, b5⟩ := hat'
    obtain ⟨c0, c1, c2, c3, c4, c5⟩ := hau
    obtain ⟨d0, d1, d2, d3, d4, d5⟩ := hau'
    simp only [Nat.zero_add, Nat.reduceAdd] at a1 a2 a3 a4 a5 b1 b2 b3 b4 b5 c1 c2 c3 c4 c5 d1 d2 d3 d4 d5
    go_wp2
    refine wp_loop_rounds 3 ?_
    rw [rounds_succ]
    go_wp2
    go_quiet (fail)
    go_wp2
    rw [rounds_succ]
    go_wp2
    go_quiet (fail)
    go_wp2
    rw [rounds_succ]
    go_wp2_with (go_at_call 25; refine (awake4_c _ (HF.out.below (bdn HB2.out _)) (HM.out.below (bdn HB2.out _))).mono ?_; rintro e w3 ⟨rfl, hb3⟩)
    go_ret
    exact ⟨rfl, bthen (bdn HB2.out _) hb3⟩
theorem econst_w (rd n : Int) (hn : 0 ≤ n ∧ n ≤ 4294967295) (W : World) (hf : FormsIs W) (hm : MatchesIs W) : Calls Tryd.prog 7 #[.int .i64 rd, .int .u32 n] W fun e w' => e = .returned (.bool true) ∧ Below W.heap.size W w' := by
  by_cases hr : 0 ≤ rd ∧ rd ≤ 31
  · obtain ⟨hs, hh, hl⟩ := c_sum n hn
    have hc := fun v => rconst_c rd n hr hn v
    by_cases e1 : cHigh n = 0
    · refine econst_one rd n hr hn 19 (cLow n) (.inl rfl) ?_ W hf hm (Lib.hid (const_A rd n hr hn e1 W)) (Lib.hid (fun v => (hc v).mono ?_))
      · rw [e1] at hs; omega
      · rintro e w' ⟨⟨u, rfl, hA, _, _⟩, hb⟩
        obtain ⟨g, cap, rfl, h⟩ := hA e1
        exact ⟨⟨g, cap, rfl, h⟩, hb⟩
    · by_cases e2 : cLow n = 0
      · refine econst_one rd n hr hn 1 (cHigh n) (.inr rfl) ?_ W hf hm (Lib.hid (const_B rd n hr hn e1 e2 W)) (Lib.hid (fun v => (hc v).mono ?_))
        · rw [e2] at hs; omega
        · rintro e w' ⟨⟨u, rfl, _, hB, _⟩, hb⟩
          obtain ⟨g, cap, rfl, h⟩ := hB e1 e2
          exact ⟨⟨g, cap, rfl, h⟩, hb⟩
      · refine econst_two rd n (cHigh n) (cLow n) hr hs hh hl W hf hm (Lib.hid (const_C rd n hr hn e1 e2 W)) (Lib.hid (fun v => (hc v).mono ?_))
        rintro e w' ⟨⟨u, rfl, _, _, hC⟩, hb⟩
        obtain ⟨g, cap, rfl, h, h'⟩ := hC e1 e2
        exact ⟨⟨g, cap, rfl, h, h'⟩, hb⟩
  · exact econst_no rd n (by omega) W hf hm
end Go.Proofs.YtnooikjkjcflbabDoor
