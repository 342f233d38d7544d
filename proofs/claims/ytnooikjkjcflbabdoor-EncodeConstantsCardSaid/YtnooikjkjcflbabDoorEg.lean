/- The walk of the law EncodeConstants: it returns true. Conditions: numbers are of their kinds; the listed variables hold what the program's text lays in them. -/
import Derived.Test.YtnooikjkjcflbabDoorEf
namespace Go.Proofs.YtnooikjkjcflbabDoor
open Go.RowKit
set_option linter.unusedVariables false
set_option linter.unusedSimpArgs false

theorem c_sum (n : Int) (hn : 0 ≤ n ∧ n ≤ 4294967295) : (cHigh n + cLow n) % 4294967296 = n ∧ (0 ≤ cHigh n ∧ cHigh n ≤ 4294967295) ∧ (0 ≤ cLow n ∧ cLow n ≤ 4294967295) := by
  unfold cHigh cLow wrap32
  omega
theorem at6_below {w w' : World} {g o : Nat} {x0 x1 x2 x3 x4 x5 : Int} (h : At6 w g o x0 x1 x2 x3 x4 x5) (hb : Below w.heap.size w w') : At6 w' g o x0 x1 x2 x3 x4 x5 := by
  obtain ⟨h0, h1, h2, h3, h4, h5⟩ := h
  have hl : g < w.heap.size := World.block_lt_of_cell? w ⟨g, o, none⟩ h0
  have c := (bcf hb).1
  exact ⟨(c _ _ hl).trans h0, (c _ _ hl).trans h1, (c _ _ hl).trans h2, (c _ _ hl).trans h3, (c _ _ hl).trans h4, (c _ _ hl).trans h5⟩
set_option maxHeartbeats 8000000 in
set_option maxRecDepth 100000 in
theorem econst_no (rd n : Int) (hr : rd < 0 ∨ 31 < rd) (W : World) (hf : FormsIs W) (hm : MatchesIs W) : Calls Tryd.prog 7 #[.int .i64 rd, .int .u32 n] W fun e w' => e = .returned (.bool true) ∧ Below W.heap.size W w' := by
  have h1 := Lib.hid (const_no rd n hr)
  have h2 := Lib.hid (awake4_c W hf hm)
  clear hf hm
  rcases hr with hr | hr
  · go_enter Tryd.func7, Tryd.ntmps7
    go_wp2_with (first | (go_at_call 34; refine (h1.out _).mono ?_; rintro e w' ⟨rfl, rfl⟩) | (go_at_call 25; refine h2.out.mono ?_; rintro e w1 ⟨rfl, hb1⟩))
    go_ret
    exact ⟨rfl, hb1⟩
  · have h0 : ¬ rd < 0 := by omega
    go_enter Tryd.func7, Tryd.ntmps7
    go_wp2_with (first | (go_at_call 34; refine (h1.out _).mono ?_; rintro e w' ⟨rfl, rfl⟩) | (go_at_call 25; refine h2.out.mono ?_; rintro e w1 ⟨rfl, hb1⟩))
    go_ret
    exact ⟨rfl, hb1⟩
set_option maxHeartbeats 16000000 in
set_option maxRecDepth 100000 in
theorem econst_one (rd n : Int) (hr : 0 ≤ rd ∧ rd ≤ 31) (hn : 0 ≤ n ∧ n ≤ 4294967295) (op x : Int) (ho : op = 19 ∨ op = 1) (hx : x = n) (W : World) (hf : FormsIs W) (hm : MatchesIs W)
    (h1 : Hid (Calls Tryd.prog 34 #[.int .i64 rd, .int .u32 n] W fun e w' => (∃ g cap, e = .returned (.tuple #[.slice (some ⟨g, 0, none⟩) 1 cap, .int .i64 0]) ∧ At6 w' g 0 op rd 0 0 x 0) ∧ Below W.heap.size W w'))
    (h2 : Hid (∀ v, Calls Tryd.prog 35 #[.int .i64 rd, .int .u32 n] v fun e w' => (∃ g cap, e = .returned (.slice (some ⟨g, 0, none⟩) 1 cap) ∧ At6 w' g 0 op rd 0 0 x 0) ∧ Below v.heap.size v w')) :
    Calls Tryd.prog 7 #[.int .i64 rd, .int .u32 n] W fun e w' => e = .returned (.bool true) ∧ Below W.heap.size W w' := by
  have HF := Lib.hid hf
  have HM := Lib.hid hm
  obtain ⟨r0, r1⟩ := hr
  subst hx
  clear hf hm hn
  rcases ho with rfl | rfl
  all_goals
    go_enter Tryd.func7, Tryd.ntmps7
    go_wp2_with fail
    refine h1.out.mono ?_
    rintro e w1 ⟨⟨g, cap, rfl, hat⟩, hb1⟩
    have HAT := Lib.hid hat
    have HB1 := Lib.hid hb1
    clear hat hb1
    go_wp2_with fail
    refine (h2.out _).mono ?_
    rintro e w2 ⟨⟨g', cap', rfl, hat'⟩, hb2⟩
    have hat := at6_below HAT.out hb2
    have HB2 := Lib.hid (bthen HB1.out hb2)
    clear hb2 HAT
    obtain ⟨a0, a1, a2, a3, a4, a5⟩ := hat
    obtain ⟨b0, b1, b2, b3, b4, b5⟩ := hat'
    simp only [Nat.zero_add] at a1 a2 a3 a4 a5 b1 b2 b3 b4 b5
    go_wp2
    refine wp_loop_rounds 2 ?_
    rw [rounds_succ]
    go_wp2
    go_quiet (fail)
    go_wp2
    rw [rounds_succ]
    go_wp2_with (go_at_call 25; refine (awake4_c _ (HF.out.below (bdn HB2.out _)) (HM.out.below (bdn HB2.out _))).mono ?_; rintro e w3 ⟨rfl, hb3⟩)
    go_ret
    exact ⟨rfl, bthen (bdn HB2.out _) hb3⟩
end Go.Proofs.YtnooikjkjcflbabDoor
