/- The walk of the law EncodeBack: it returns true. Conditions: numbers are of their kinds; the listed variables hold what the program's text lays in them. -/
import Derived.Test.YtnooikjkjcflbacDoorEn
namespace Go.Proofs.YtnooikjkjcflbacDoor
open Go.RowKit
set_option linter.unusedVariables false
set_option linter.unusedSimpArgs false

/-- What encode.Encode answers, in one word. -/
def encOkB (i : Ins6) : Bool := i.x0 != 0 && rightB i.x0 i.x1 i.x2 i.x3 i.x4 i.x5
def encW (i : Ins6) : Int := if encOkB i = true then encV i.x0 i.x1 i.x2 i.x3 i.x4 i.x5 else 0
def encE (i : Ins6) : Int := if encOkB i = true then 0 else 9
theorem encI_c (i : Ins6) (hi : 0 ≤ i.x4 ∧ i.x4 ≤ 4294967295) (w : World) (hf : FormsIs w) (hm : MatchesIs w) : Calls Tryd.prog 25 #[i.val] w fun e w' => e = .returned (.tuple #[.int .u32 (encW i), .int .i64 (encE i)]) ∧ Below w.heap.size w w' := by
  unfold encW encE
  rcases Bool.eq_false_or_eq_true (encOkB i) with h | h
  · rw [h]
    simp only [if_true]
    unfold encOkB at h
    simp only [Bool.and_eq_true, bne_iff_ne] at h
    exact enc_ok _ _ _ _ _ _ hi h.1 h.2 w hf hm
  · rw [h]
    simp only [Bool.false_eq_true, if_false]
    unfold encOkB at h
    simp only [Bool.and_eq_false_iff, bne_eq_false_iff_eq] at h
    exact enc_no _ _ _ _ _ _ hi h w hf hm
theorem encI_back (i : Ins6) (hi : 0 ≤ i.x4 ∧ i.x4 ≤ 4294967295) (h : encOkB i = true) : (0 ≤ encW i ∧ encW i ≤ 4294967295) ∧ decI (encW i) = i := by
  have h' := h
  unfold encOkB at h'
  simp only [Bool.and_eq_true, bne_iff_ne] at h'
  unfold encW
  rw [if_pos h]
  exact enc_rng_dec _ _ _ _ _ _ hi h'.1 h'.2
theorem encI_dec (w : Int) (h : 0 ≤ w ∧ w ≤ 4294967295) (hn : ¬ (decI w).x0 = 0) : encW (decI w) = w ∧ encE (decI w) = 0 := by
  have e : encOkB (decI w) = true := by
    unfold encOkB
    rw [dec_right w h]
    simp [hn]
  unfold encW encE
  rw [if_pos e, if_pos e]
  exact ⟨dec_enc w h hn, rfl⟩
theorem encI_zero (i : Ins6) (h : i.x0 = 0) : encW i = 0 ∧ encE i = 9 := by
  have e : encOkB i = false := by unfold encOkB; simp [h]
  unfold encW encE
  rw [e]
  exact ⟨rfl, rfl⟩
set_option maxHeartbeats 1000000 in
set_option maxRecDepth 100000 in
theorem eback_w (a0 a1 a2 a3 a4 a5 w : Int) (hi : 0 ≤ a4 ∧ a4 ≤ 4294967295) (h : 0 ≤ w ∧ w ≤ 4294967295) (W : World) (hf : FormsIs W) (hm : MatchesIs W) :
    Calls Tryd.prog 9 #[.agg #[.int .i64 a0, .int .i64 a1, .int .i64 a2, .int .i64 a3, .int .u32 a4, .int .i64 a5], .int .u32 w] W fun e w' => e = .returned (.bool true) ∧ Below W.heap.size W w' := by
  have h1 := fun (v : World) (hv : FormsIs v) (hv2 : MatchesIs v) => encI_c ⟨a0, a1, a2, a3, a4, a5⟩ hi v hv hv2
  have h2 := fun (v : World) (hv : FormsIs v) => decI_c w h v hv
  have h3 := fun (v : World) (hv : FormsIs v) (hv2 : MatchesIs v) => encI_c (decI w) (dec_imm w h) v hv hv2
  have h4 : encE ⟨a0, a1, a2, a3, a4, a5⟩ = 9 ∨ (encE ⟨a0, a1, a2, a3, a4, a5⟩ = 0 ∧ (0 ≤ encW ⟨a0, a1, a2, a3, a4, a5⟩ ∧ encW ⟨a0, a1, a2, a3, a4, a5⟩ ≤ 4294967295) ∧ decI (encW ⟨a0, a1, a2, a3, a4, a5⟩) = ⟨a0, a1, a2, a3, a4, a5⟩) := by
    rcases Bool.eq_false_or_eq_true (encOkB ⟨a0, a1, a2, a3, a4, a5⟩) with e | e
    · exact Or.inr ⟨by unfold encE; rw [if_pos e], encI_back _ hi e⟩
    · exact Or.inl (by unfold encE; rw [e]; rfl)
  have h5 : ((decI w).x0 = 0 ∧ encW (decI w) = 0 ∧ encE (decI w) = 9) ∨ (¬ (decI w).x0 = 0 ∧ encW (decI w) = w ∧ encE (decI w) = 0) := by
    by_cases e : (decI w).x0 = 0
    · exact Or.inl ⟨e, encI_zero _ e⟩
    · exact Or.inr ⟨e, encI_dec w h e⟩
  have H2 := Lib.hid h2
  have HF := Lib.hid hf
  have HM := Lib.hid hm
  unfold Ins6.val at h1
  dsimp only at h1
  clear h2 hf hm
  generalize encE ⟨a0, a1, a2, a3, a4, a5⟩ = e1 at *
  generalize hx : encW ⟨a0, a1, a2, a3, a4, a5⟩ = x at *
  clear hx
  generalize hj : decI w = j at *
  generalize encE j = e2 at *
  generalize hy : encW j = y at *
  clear hy
  obtain ⟨y0, y1, y2, y3, y4, y5⟩ := j
  unfold Ins6.val at H2 h3
  dsimp only at H2 h3 h5
  have H1 := Lib.hid h1
  have H3 := Lib.hid h3
  clear h1 h3 hj
  have tail : ∀ w1 : World, Below W.heap.size W w1 → True := fun _ _ => trivial
  rcases h4 with rfl | ⟨rfl, hx, he⟩
  · clear hi h tail
    rcases h5 with ⟨rfl, rfl, rfl⟩ | ⟨hn, rfl, rfl⟩
    all_goals
      try have hn1 := nb hn
      go_enter Tryd.func9, Tryd.ntmps9
      go_wp2_with fail
      have hbx := bal (Below.refl W.heap.size W) (.cells #[.int .i64 a0, .int .i64 a1, .int .i64 a2, .int .i64 a3, .int .u32 a4, .int .i64 a5] 24)
      refine (H1.out _ (HF.out.below hbx) (HM.out.below hbx)).mono ?_
      rintro e w1 ⟨rfl, hb1⟩
      have HB1 := Lib.hid (bthen hbx hb1)
      clear hbx hb1
      go_wp2_with fail
      go_quiet (fail)
      go_wp2_with fail
      have HB2 := Lib.hid (bdn HB1.out nq)
      generalize w1.drewN nq = w2 at *
      refine (H2.out _ (HF.out.below HB2.out)).mono ?_
      rintro e w3 ⟨rfl, hb3⟩
      have HB3 := Lib.hid (bthen HB2.out hb3)
      clear hb3
      go_wp2_with fail
      refine (H3.out _ (HF.out.below (bal HB3.out _)) (HM.out.below (bal HB3.out _))).mono ?_
      rintro e w4 ⟨rfl, hb4⟩
      have HB4 := Lib.hid (bthen (bal HB3.out _) hb4)
      have hc4 := (bcf hb4).1
      have hz4 : w3.heap.size < w4.heap.size := by have := hb4.size; simp at this; omega
      clear hb4
      go_wp2_with (go_at_call 26; refine (awake4_c _ (HF.out.below HB4.out) (HM.out.below HB4.out)).mono ?_; rintro e w5 ⟨rfl, hb5⟩)
      go_ret
      exact ⟨rfl, bthen HB4.out hb5⟩
  · have h2d := fun (v : World) (hv : FormsIs v) => decI_c x hx v hv
    rw [he] at h2d
    unfold Ins6.val at h2d
    dsimp only at h2d
    have H5 := Lib.hid h2d
    clear h2d he hi h hx tail
    rcases h5 with ⟨rfl, rfl, rfl⟩ | ⟨hn, rfl, rfl⟩
    all_goals
      try have hn1 := nb hn
      go_enter Tryd.func9, Tryd.ntmps9
      go_wp2_with fail
      have hbx := bal (Below.refl W.heap.size W) (.cells #[.int .i64 a0, .int .i64 a1, .int .i64 a2, .int .i64 a3, .int .u32 a4, .int .i64 a5] 24)
      refine (H1.out _ (HF.out.below hbx) (HM.out.below hbx)).mono ?_
      rintro e w1 ⟨rfl, hb1⟩
      have HB1 := Lib.hid (bthen hbx hb1)
      have hcc := (bcf hb1).1
      have hz1 : W.heap.size < w1.heap.size := by have := hb1.size; simp at this; omega
      clear hbx hb1
      go_wp2_with fail
      refine wp_region_below (by kernel_rfl) (by kernel_rfl) ?_
      intro S _ F hF hS
      have c0 := fcell hF (b := W.heap.size) (o := 0) (v := .int .i64 a0) (by rw [hcc _ _ (by simp)]; simp [go_sem])
      have c1 := fcell hF (b := W.heap.size) (o := 1) (v := .int .i64 a1) (by rw [hcc _ _ (by simp)]; simp [go_sem])
      have c2 := fcell hF (b := W.heap.size) (o := 2) (v := .int .i64 a2) (by rw [hcc _ _ (by simp)]; simp [go_sem])
      have c3 := fcell hF (b := W.heap.size) (o := 3) (v := .int .i64 a3) (by rw [hcc _ _ (by simp)]; simp [go_sem])
      have c4 := fcell hF (b := W.heap.size) (o := 4) (v := .int .u32 a4) (by rw [hcc _ _ (by simp)]; simp [go_sem])
      have c5 := fcell hF (b := W.heap.size) (o := 5) (v := .int .i64 a5) (by rw [hcc _ _ (by simp)]; simp [go_sem])
      have HRF : ∀ s, Hid (FormsIs (F s)) := fun s => Lib.hid (HF.out.below (bthen HB1.out (hF s)))
      repeat (go_big_quiet_step (first | (go_at_call 10; exact qbelow hS (H5.out _ (HRF _).out)) | fail))
      refine wpQuiet_nil ?_
      intro w2 hw2
      obtain ⟨s2, rfl⟩ := hw2
      have HB2 := Lib.hid (bthen HB1.out (hF s2))
      clear c0 c1 c2 c3 c4 c5 hF hS HRF hcc hz1
      generalize F s2 = w2 at *
      go_wp2_with fail
      refine (H2.out _ (HF.out.below HB2.out)).mono ?_
      rintro e w3 ⟨rfl, hb3⟩
      have HB3 := Lib.hid (bthen HB2.out hb3)
      clear hb3
      go_wp2_with fail
      refine (H3.out _ (HF.out.below (bal HB3.out _)) (HM.out.below (bal HB3.out _))).mono ?_
      rintro e w4 ⟨rfl, hb4⟩
      have HB4 := Lib.hid (bthen (bal HB3.out _) hb4)
      have hc4 := (bcf hb4).1
      have hz4 : w3.heap.size < w4.heap.size := by have := hb4.size; simp at this; omega
      clear hb4
      go_wp2_with (go_at_call 26; refine (awake4_c _ (HF.out.below HB4.out) (HM.out.below HB4.out)).mono ?_; rintro e w5 ⟨rfl, hb5⟩)
      go_ret
      exact ⟨rfl, bthen HB4.out hb5⟩
end Go.Proofs.YtnooikjkjcflbacDoor
