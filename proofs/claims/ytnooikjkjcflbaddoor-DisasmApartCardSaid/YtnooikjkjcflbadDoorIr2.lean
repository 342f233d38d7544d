/- Contract of inst.Right: it answers rightB. Conditions: the immediate number is a word; the listed variables hold what the program's text lays in them. -/
import Derived.Test.YtnooikjkjcflbadDoorIr1
import Derived.Test.YtnooikjkjcflbadDoorRg
namespace Go.Proofs.YtnooikjkjcflbadDoor
open Go.RowKit
set_option linter.unusedVariables false
set_option linter.unusedSimpArgs false

theorem form_rng (op : Int) : 0 ≤ formV op ∧ formV op ≤ 9 := by
  unfold formV
  split
  · have h : ∀ i, i < 58 → 0 ≤ formsAt i ∧ formsAt i ≤ 9 := by decide +kernel
    rename_i h1
    obtain ⟨h2, h3⟩ := has_t h1
    exact h _ (by omega)
  · omega
theorem bcell {W w1 : World} (hb : Below W.heap.size W w1) : ∀ b o, b < W.heap.size → w1.cell? ⟨b, o, none⟩ = W.cell? ⟨b, o, none⟩ := fun b o h => hb.cell (p := ⟨b, o, none⟩) h
def onlyB (f rd rs1 rs2 imm csr : Int) : Bool := oRd f rd == rd && (oRs1 f rs1 == rs1 && (oRs2 f rs2 == rs2 && (oImm f imm == imm && oCsr f csr == csr)))
def rightB (op rd rs1 rs2 imm csr : Int) : Bool :=
  hasB op && onlyB (formV op) rd rs1 rs2 imm csr && regB rd && regB rs1 && regB rs2 && numB (formV op) imm && decide (0 ≤ csr) && decide (csr ≤ 4095)
set_option maxHeartbeats 8000000 in
set_option maxRecDepth 100000 in
theorem right_c (op rd rs1 rs2 imm csr : Int) (hi : 0 ≤ imm ∧ imm ≤ 4294967295) (w : World) (hf : FormsIs w) : Calls Tryd.prog 44 #[.agg #[.int .i64 op, .int .i64 rd, .int .i64 rs1, .int .i64 rs2, .int .u32 imm, .int .i64 csr]] w fun e w' =>
    e = .returned (.bool (rightB op rd rs1 rs2 imm csr)) ∧ Below w.heap.size w w' := by
  have HF := Lib.hid hf
  have hr := form_rng op
  clear hf
  rcases Bool.eq_false_or_eq_true (hasB op) with h | h
  · have he : hasE op = 0 := by simp [hasE, h]
    have hf9 := hr
    generalize hfv : formV op = f at *
    have HFV := Lib.hid hfv
    clear hfv hr
    rcases Bool.eq_false_or_eq_true (oRd f rd == rd) with b1 | b1
    rotate_left
    · have hv : rightB op rd rs1 rs2 imm csr = false := by simp [rightB, onlyB, HFV.out, b1]
      rw [hv]
      clear hv
      go_enter Tryd.func44, Tryd.ntmps44
      go_wp2_with (go_at_call 46; refine (form_c op _ (HF.out.below (bal (Below.refl _ _) _))).mono ?_; rintro e w' ⟨rfl, rfl⟩; rw [HFV.out, he])
      refine wp_region_below (by kernel_rfl) (by kernel_rfl) ?_
      intro S _ F hF hS
      have c0 := fcell hF (b := w.heap.size) (o := 0) (v := .int .i64 op) (by simp [go_sem])
      have c1 := fcell hF (b := w.heap.size) (o := 1) (v := .int .i64 rd) (by simp [go_sem])
      have c2 := fcell hF (b := w.heap.size) (o := 2) (v := .int .i64 rs1) (by simp [go_sem])
      have c3 := fcell hF (b := w.heap.size) (o := 3) (v := .int .i64 rs2) (by simp [go_sem])
      have c4 := fcell hF (b := w.heap.size) (o := 4) (v := .int .u32 imm) (by simp [go_sem])
      have c5 := fcell hF (b := w.heap.size) (o := 5) (v := .int .i64 csr) (by simp [go_sem])
      repeat (go_big_quiet_step (first | (go_at_call 69; exact qbelow hS (only_c op rd rs1 rs2 imm csr f hf9 _)) | (go_at_call_of 70 (Value.int IntKind.i64 rd); exact qsame (reg_c rd _)) | (go_at_call_of 70 (Value.int IntKind.i64 rs1); exact qsame (reg_c rs1 _)) | (go_at_call_of 70 (Value.int IntKind.i64 rs2); exact qsame (reg_c rs2 _))))
      refine wpQuiet_nil ?_
      intro w1 hw1
      obtain ⟨s1, rfl⟩ := hw1
      have hb1 := bthen (bal (Below.refl w.heap.size w) _) (hF s1)
      have c0 := c0 s1
      have c4 := c4 s1
      have c5 := c5 s1
      clear c1 c2 c3 hF hS
      generalize F s1 = w1 at *
      go_wp2
      go_ret
      exact ⟨rfl, hb1⟩
    rcases Bool.eq_false_or_eq_true (oRs1 f rs1 == rs1) with b2 | b2
    rotate_left
    · have hv : rightB op rd rs1 rs2 imm csr = false := by simp [rightB, onlyB, HFV.out, b2]
      rw [hv]
      clear hv
      go_enter Tryd.func44, Tryd.ntmps44
      go_wp2_with (go_at_call 46; refine (form_c op _ (HF.out.below (bal (Below.refl _ _) _))).mono ?_; rintro e w' ⟨rfl, rfl⟩; rw [HFV.out, he])
      refine wp_region_below (by kernel_rfl) (by kernel_rfl) ?_
      intro S _ F hF hS
      have c0 := fcell hF (b := w.heap.size) (o := 0) (v := .int .i64 op) (by simp [go_sem])
      have c1 := fcell hF (b := w.heap.size) (o := 1) (v := .int .i64 rd) (by simp [go_sem])
      have c2 := fcell hF (b := w.heap.size) (o := 2) (v := .int .i64 rs1) (by simp [go_sem])
      have c3 := fcell hF (b := w.heap.size) (o := 3) (v := .int .i64 rs2) (by simp [go_sem])
      have c4 := fcell hF (b := w.heap.size) (o := 4) (v := .int .u32 imm) (by simp [go_sem])
      have c5 := fcell hF (b := w.heap.size) (o := 5) (v := .int .i64 csr) (by simp [go_sem])
      repeat (go_big_quiet_step (first | (go_at_call 69; exact qbelow hS (only_c op rd rs1 rs2 imm csr f hf9 _)) | (go_at_call_of 70 (Value.int IntKind.i64 rd); exact qsame (reg_c rd _)) | (go_at_call_of 70 (Value.int IntKind.i64 rs1); exact qsame (reg_c rs1 _)) | (go_at_call_of 70 (Value.int IntKind.i64 rs2); exact qsame (reg_c rs2 _))))
      refine wpQuiet_nil ?_
      intro w1 hw1
      obtain ⟨s1, rfl⟩ := hw1
      have hb1 := bthen (bal (Below.refl w.heap.size w) _) (hF s1)
      have c0 := c0 s1
      have c4 := c4 s1
      have c5 := c5 s1
      clear c1 c2 c3 hF hS
      generalize F s1 = w1 at *
      go_wp2
      go_ret
      exact ⟨rfl, hb1⟩
    rcases Bool.eq_false_or_eq_true (oRs2 f rs2 == rs2) with b3 | b3
    rotate_left
    · have hv : rightB op rd rs1 rs2 imm csr = false := by simp [rightB, onlyB, HFV.out, b3]
      rw [hv]
      clear hv
      go_enter Tryd.func44, Tryd.ntmps44
      go_wp2_with (go_at_call 46; refine (form_c op _ (HF.out.below (bal (Below.refl _ _) _))).mono ?_; rintro e w' ⟨rfl, rfl⟩; rw [HFV.out, he])
      refine wp_region_below (by kernel_rfl) (by kernel_rfl) ?_
      intro S _ F hF hS
      have c0 := fcell hF (b := w.heap.size) (o := 0) (v := .int .i64 op) (by simp [go_sem])
      have c1 := fcell hF (b := w.heap.size) (o := 1) (v := .int .i64 rd) (by simp [go_sem])
      have c2 := fcell hF (b := w.heap.size) (o := 2) (v := .int .i64 rs1) (by simp [go_sem])
      have c3 := fcell hF (b := w.heap.size) (o := 3) (v := .int .i64 rs2) (by simp [go_sem])
      have c4 := fcell hF (b := w.heap.size) (o := 4) (v := .int .u32 imm) (by simp [go_sem])
      have c5 := fcell hF (b := w.heap.size) (o := 5) (v := .int .i64 csr) (by simp [go_sem])
      repeat (go_big_quiet_step (first | (go_at_call 69; exact qbelow hS (only_c op rd rs1 rs2 imm csr f hf9 _)) | (go_at_call_of 70 (Value.int IntKind.i64 rd); exact qsame (reg_c rd _)) | (go_at_call_of 70 (Value.int IntKind.i64 rs1); exact qsame (reg_c rs1 _)) | (go_at_call_of 70 (Value.int IntKind.i64 rs2); exact qsame (reg_c rs2 _))))
      refine wpQuiet_nil ?_
      intro w1 hw1
      obtain ⟨s1, rfl⟩ := hw1
      have hb1 := bthen (bal (Below.refl w.heap.size w) _) (hF s1)
      have c0 := c0 s1
      have c4 := c4 s1
      have c5 := c5 s1
      clear c1 c2 c3 hF hS
      generalize F s1 = w1 at *
      go_wp2
      go_ret
      exact ⟨rfl, hb1⟩
    rcases Bool.eq_false_or_eq_true (oImm f imm == imm) with b4 | b4
    rotate_left
    · have hv : rightB op rd rs1 rs2 imm csr = false := by simp [rightB, onlyB, HFV.out, b4]
      rw [hv]
      clear hv
      go_enter Tryd.func44, Tryd.ntmps44
      go_wp2_with (go_at_call 46; refine (form_c op _ (HF.out.below (bal (Below.refl _ _) _))).mono ?_; rintro e w' ⟨rfl, rfl⟩; rw [HFV.out, he])
      refine wp_region_below (by kernel_rfl) (by kernel_rfl) ?_
      intro S _ F hF hS
      have c0 := fcell hF (b := w.heap.size) (o := 0) (v := .int .i64 op) (by simp [go_sem])
      have c1 := fcell hF (b := w.heap.size) (o := 1) (v := .int .i64 rd) (by simp [go_sem])
      have c2 := fcell hF (b := w.heap.size) (o := 2) (v := .int .i64 rs1) (by simp [go_sem])
      have c3 := fcell hF (b := w.heap.size) (o := 3) (v := .int .i64 rs2) (by simp [go_sem])
      have c4 := fcell hF (b := w.heap.size) (o := 4) (v := .int .u32 imm) (by simp [go_sem])
      have c5 := fcell hF (b := w.heap.size) (o := 5) (v := .int .i64 csr) (by simp [go_sem])
      repeat (go_big_quiet_step (first | (go_at_call 69; exact qbelow hS (only_c op rd rs1 rs2 imm csr f hf9 _)) | (go_at_call_of 70 (Value.int IntKind.i64 rd); exact qsame (reg_c rd _)) | (go_at_call_of 70 (Value.int IntKind.i64 rs1); exact qsame (reg_c rs1 _)) | (go_at_call_of 70 (Value.int IntKind.i64 rs2); exact qsame (reg_c rs2 _))))
      refine wpQuiet_nil ?_
      intro w1 hw1
      obtain ⟨s1, rfl⟩ := hw1
      have hb1 := bthen (bal (Below.refl w.heap.size w) _) (hF s1)
      have c0 := c0 s1
      have c4 := c4 s1
      have c5 := c5 s1
      clear c1 c2 c3 hF hS
      generalize F s1 = w1 at *
      go_wp2
      go_ret
      exact ⟨rfl, hb1⟩
    rcases Bool.eq_false_or_eq_true (oCsr f csr == csr) with b5 | b5
    rotate_left
    · have hv : rightB op rd rs1 rs2 imm csr = false := by simp [rightB, onlyB, HFV.out, b5]
      rw [hv]
      clear hv
      go_enter Tryd.func44, Tryd.ntmps44
      go_wp2_with (go_at_call 46; refine (form_c op _ (HF.out.below (bal (Below.refl _ _) _))).mono ?_; rintro e w' ⟨rfl, rfl⟩; rw [HFV.out, he])
      refine wp_region_below (by kernel_rfl) (by kernel_rfl) ?_
      intro S _ F hF hS
      have c0 := fcell hF (b := w.heap.size) (o := 0) (v := .int .i64 op) (by simp [go_sem])
      have c1 := fcell hF (b := w.heap.size) (o := 1) (v := .int .i64 rd) (by simp [go_sem])
      have c2 := fcell hF (b := w.heap.size) (o := 2) (v := .int .i64 rs1) (by simp [go_sem])
      have c3 := fcell hF (b := w.heap.size) (o := 3) (v := .int .i64 rs2) (by simp [go_sem])
      have c4 := fcell hF (b := w.heap.size) (o := 4) (v := .int .u32 imm) (by simp [go_sem])
      have c5 := fcell hF (b := w.heap.size) (o := 5) (v := .int .i64 csr) (by simp [go_sem])
      repeat (go_big_quiet_step (first | (go_at_call 69; exact qbelow hS (only_c op rd rs1 rs2 imm csr f hf9 _)) | (go_at_call_of 70 (Value.int IntKind.i64 rd); exact qsame (reg_c rd _)) | (go_at_call_of 70 (Value.int IntKind.i64 rs1); exact qsame (reg_c rs1 _)) | (go_at_call_of 70 (Value.int IntKind.i64 rs2); exact qsame (reg_c rs2 _))))
      refine wpQuiet_nil ?_
      intro w1 hw1
      obtain ⟨s1, rfl⟩ := hw1
      have hb1 := bthen (bal (Below.refl w.heap.size w) _) (hF s1)
      have c0 := c0 s1
      have c4 := c4 s1
      have c5 := c5 s1
      clear c1 c2 c3 hF hS
      generalize F s1 = w1 at *
      go_wp2
      go_ret
      exact ⟨rfl, hb1⟩
    rcases Bool.eq_false_or_eq_true (regB rd) with b6 | b6
    rotate_left
    · have hv : rightB op rd rs1 rs2 imm csr = false := by simp [rightB, onlyB, HFV.out, b6]
      rw [hv]
      clear hv
      go_enter Tryd.func44, Tryd.ntmps44
      go_wp2_with (go_at_call 46; refine (form_c op _ (HF.out.below (bal (Below.refl _ _) _))).mono ?_; rintro e w' ⟨rfl, rfl⟩; rw [HFV.out, he])
      refine wp_region_below (by kernel_rfl) (by kernel_rfl) ?_
      intro S _ F hF hS
      have c0 := fcell hF (b := w.heap.size) (o := 0) (v := .int .i64 op) (by simp [go_sem])
      have c1 := fcell hF (b := w.heap.size) (o := 1) (v := .int .i64 rd) (by simp [go_sem])
      have c2 := fcell hF (b := w.heap.size) (o := 2) (v := .int .i64 rs1) (by simp [go_sem])
      have c3 := fcell hF (b := w.heap.size) (o := 3) (v := .int .i64 rs2) (by simp [go_sem])
      have c4 := fcell hF (b := w.heap.size) (o := 4) (v := .int .u32 imm) (by simp [go_sem])
      have c5 := fcell hF (b := w.heap.size) (o := 5) (v := .int .i64 csr) (by simp [go_sem])
      repeat (go_big_quiet_step (first | (go_at_call 69; exact qbelow hS (only_c op rd rs1 rs2 imm csr f hf9 _)) | (go_at_call_of 70 (Value.int IntKind.i64 rd); exact qsame (reg_c rd _)) | (go_at_call_of 70 (Value.int IntKind.i64 rs1); exact qsame (reg_c rs1 _)) | (go_at_call_of 70 (Value.int IntKind.i64 rs2); exact qsame (reg_c rs2 _))))
      refine wpQuiet_nil ?_
      intro w1 hw1
      obtain ⟨s1, rfl⟩ := hw1
      have hb1 := bthen (bal (Below.refl w.heap.size w) _) (hF s1)
      have c0 := c0 s1
      have c4 := c4 s1
      have c5 := c5 s1
      clear c1 c2 c3 hF hS
      generalize F s1 = w1 at *
      go_wp2
      go_ret
      exact ⟨rfl, hb1⟩
    rcases Bool.eq_false_or_eq_true (regB rs1) with b7 | b7
    rotate_left
    · have hv : rightB op rd rs1 rs2 imm csr = false := by simp [rightB, onlyB, HFV.out, b7]
      rw [hv]
      clear hv
      go_enter Tryd.func44, Tryd.ntmps44
      go_wp2_with (go_at_call 46; refine (form_c op _ (HF.out.below (bal (Below.refl _ _) _))).mono ?_; rintro e w' ⟨rfl, rfl⟩; rw [HFV.out, he])
      refine wp_region_below (by kernel_rfl) (by kernel_rfl) ?_
      intro S _ F hF hS
      have c0 := fcell hF (b := w.heap.size) (o := 0) (v := .int .i64 op) (by simp [go_sem])
      have c1 := fcell hF (b := w.heap.size) (o := 1) (v := .int .i64 rd) (by simp [go_sem])
      have c2 := fcell hF (b := w.heap.size) (o := 2) (v := .int .i64 rs1) (by simp [go_sem])
      have c3 := fcell hF (b := w.heap.size) (o := 3) (v := .int .i64 rs2) (by simp [go_sem])
      have c4 := fcell hF (b := w.heap.size) (o := 4) (v := .int .u32 imm) (by simp [go_sem])
      have c5 := fcell hF (b := w.heap.size) (o := 5) (v := .int .i64 csr) (by simp [go_sem])
      repeat (go_big_quiet_step (first | (go_at_call 69; exact qbelow hS (only_c op rd rs1 rs2 imm csr f hf9 _)) | (go_at_call_of 70 (Value.int IntKind.i64 rd); exact qsame (reg_c rd _)) | (go_at_call_of 70 (Value.int IntKind.i64 rs1); exact qsame (reg_c rs1 _)) | (go_at_call_of 70 (Value.int IntKind.i64 rs2); exact qsame (reg_c rs2 _))))
      refine wpQuiet_nil ?_
      intro w1 hw1
      obtain ⟨s1, rfl⟩ := hw1
      have hb1 := bthen (bal (Below.refl w.heap.size w) _) (hF s1)
      have c0 := c0 s1
      have c4 := c4 s1
      have c5 := c5 s1
      clear c1 c2 c3 hF hS
      generalize F s1 = w1 at *
      go_wp2
      go_ret
      exact ⟨rfl, hb1⟩
    rcases Bool.eq_false_or_eq_true (regB rs2) with b8 | b8
    rotate_left
    · have hv : rightB op rd rs1 rs2 imm csr = false := by simp [rightB, onlyB, HFV.out, b8]
      rw [hv]
      clear hv
      go_enter Tryd.func44, Tryd.ntmps44
      go_wp2_with (go_at_call 46; refine (form_c op _ (HF.out.below (bal (Below.refl _ _) _))).mono ?_; rintro e w' ⟨rfl, rfl⟩; rw [HFV.out, he])
      refine wp_region_below (by kernel_rfl) (by kernel_rfl) ?_
      intro S _ F hF hS
      have c0 := fcell hF (b := w.heap.size) (o := 0) (v := .int .i64 op) (by simp [go_sem])
      have c1 := fcell hF (b := w.heap.size) (o := 1) (v := .int .i64 rd) (by simp [go_sem])
      have c2 := fcell hF (b := w.heap.size) (o := 2) (v := .int .i64 rs1) (by simp [go_sem])
      have c3 := fcell hF (b := w.heap.size) (o := 3) (v := .int .i64 rs2) (by simp [go_sem])
      have c4 := fcell hF (b := w.heap.size) (o := 4) (v := .int .u32 imm) (by simp [go_sem])
      have c5 := fcell hF (b := w.heap.size) (o := 5) (v := .int .i64 csr) (by simp [go_sem])
      repeat (go_big_quiet_step (first | (go_at_call 69; exact qbelow hS (only_c op rd rs1 rs2 imm csr f hf9 _)) | (go_at_call_of 70 (Value.int IntKind.i64 rd); exact qsame (reg_c rd _)) | (go_at_call_of 70 (Value.int IntKind.i64 rs1); exact qsame (reg_c rs1 _)) | (go_at_call_of 70 (Value.int IntKind.i64 rs2); exact qsame (reg_c rs2 _))))
      refine wpQuiet_nil ?_
      intro w1 hw1
      obtain ⟨s1, rfl⟩ := hw1
      have hb1 := bthen (bal (Below.refl w.heap.size w) _) (hF s1)
      have c0 := c0 s1
      have c4 := c4 s1
      have c5 := c5 s1
      clear c1 c2 c3 hF hS
      generalize F s1 = w1 at *
      go_wp2
      go_ret
      exact ⟨rfl, hb1⟩
    have hv : rightB op rd rs1 rs2 imm csr = (numB f imm && decide (0 ≤ csr) && decide (csr ≤ 4095)) := by simp [rightB, onlyB, HFV.out, h, b1, b2, b3, b4, b5, b6, b7, b8]
    rw [hv]
    clear hv
    rcases Bool.eq_false_or_eq_true (numB f imm) with b9 | b9
    · by_cases k1 : 0 ≤ csr
      · by_cases k2 : csr ≤ 4095
        · go_enter Tryd.func44, Tryd.ntmps44
          go_wp2_with (go_at_call 46; refine (form_c op _ (HF.out.below (bal (Below.refl _ _) _))).mono ?_; rintro e w' ⟨rfl, rfl⟩; rw [HFV.out, he])
          refine wp_region_below (by kernel_rfl) (by kernel_rfl) ?_
          intro S _ F hF hS
          have c0 := fcell hF (b := w.heap.size) (o := 0) (v := .int .i64 op) (by simp [go_sem])
          have c1 := fcell hF (b := w.heap.size) (o := 1) (v := .int .i64 rd) (by simp [go_sem])
          have c2 := fcell hF (b := w.heap.size) (o := 2) (v := .int .i64 rs1) (by simp [go_sem])
          have c3 := fcell hF (b := w.heap.size) (o := 3) (v := .int .i64 rs2) (by simp [go_sem])
          have c4 := fcell hF (b := w.heap.size) (o := 4) (v := .int .u32 imm) (by simp [go_sem])
          have c5 := fcell hF (b := w.heap.size) (o := 5) (v := .int .i64 csr) (by simp [go_sem])
          repeat (go_big_quiet_step (first | (go_at_call 69; exact qbelow hS (only_c op rd rs1 rs2 imm csr f hf9 _)) | (go_at_call_of 70 (Value.int IntKind.i64 rd); exact qsame (reg_c rd _)) | (go_at_call_of 70 (Value.int IntKind.i64 rs1); exact qsame (reg_c rs1 _)) | (go_at_call_of 70 (Value.int IntKind.i64 rs2); exact qsame (reg_c rs2 _))))
          refine wpQuiet_nil ?_
          intro w1 hw1
          obtain ⟨s1, rfl⟩ := hw1
          have hb1 := bthen (bal (Below.refl w.heap.size w) _) (hF s1)
          have c0 := c0 s1
          have c4 := c4 s1
          have c5 := c5 s1
          clear c1 c2 c3 hF hS
          generalize F s1 = w1 at *
          go_wp2_with (go_at_call 71; refine (num_c imm hi f hf9 _).mono ?_; rintro e w' ⟨rfl, rfl⟩)
          go_ret
          exact ⟨by first | (simp [b9, k1, k2]; done) | (simp [b9, k1, k2]; omega), hb1⟩
        · go_enter Tryd.func44, Tryd.ntmps44
          go_wp2_with (go_at_call 46; refine (form_c op _ (HF.out.below (bal (Below.refl _ _) _))).mono ?_; rintro e w' ⟨rfl, rfl⟩; rw [HFV.out, he])
          refine wp_region_below (by kernel_rfl) (by kernel_rfl) ?_
          intro S _ F hF hS
          have c0 := fcell hF (b := w.heap.size) (o := 0) (v := .int .i64 op) (by simp [go_sem])
          have c1 := fcell hF (b := w.heap.size) (o := 1) (v := .int .i64 rd) (by simp [go_sem])
          have c2 := fcell hF (b := w.heap.size) (o := 2) (v := .int .i64 rs1) (by simp [go_sem])
          have c3 := fcell hF (b := w.heap.size) (o := 3) (v := .int .i64 rs2) (by simp [go_sem])
          have c4 := fcell hF (b := w.heap.size) (o := 4) (v := .int .u32 imm) (by simp [go_sem])
          have c5 := fcell hF (b := w.heap.size) (o := 5) (v := .int .i64 csr) (by simp [go_sem])
          repeat (go_big_quiet_step (first | (go_at_call 69; exact qbelow hS (only_c op rd rs1 rs2 imm csr f hf9 _)) | (go_at_call_of 70 (Value.int IntKind.i64 rd); exact qsame (reg_c rd _)) | (go_at_call_of 70 (Value.int IntKind.i64 rs1); exact qsame (reg_c rs1 _)) | (go_at_call_of 70 (Value.int IntKind.i64 rs2); exact qsame (reg_c rs2 _))))
          refine wpQuiet_nil ?_
          intro w1 hw1
          obtain ⟨s1, rfl⟩ := hw1
          have hb1 := bthen (bal (Below.refl w.heap.size w) _) (hF s1)
          have c0 := c0 s1
          have c4 := c4 s1
          have c5 := c5 s1
          clear c1 c2 c3 hF hS
          generalize F s1 = w1 at *
          go_wp2_with (go_at_call 71; refine (num_c imm hi f hf9 _).mono ?_; rintro e w' ⟨rfl, rfl⟩)
          go_ret
          exact ⟨by first | (simp [b9, k1, k2]; done) | (simp [b9, k1, k2]; omega), hb1⟩
      · go_enter Tryd.func44, Tryd.ntmps44
        go_wp2_with (go_at_call 46; refine (form_c op _ (HF.out.below (bal (Below.refl _ _) _))).mono ?_; rintro e w' ⟨rfl, rfl⟩; rw [HFV.out, he])
        refine wp_region_below (by kernel_rfl) (by kernel_rfl) ?_
        intro S _ F hF hS
        have c0 := fcell hF (b := w.heap.size) (o := 0) (v := .int .i64 op) (by simp [go_sem])
        have c1 := fcell hF (b := w.heap.size) (o := 1) (v := .int .i64 rd) (by simp [go_sem])
        have c2 := fcell hF (b := w.heap.size) (o := 2) (v := .int .i64 rs1) (by simp [go_sem])
        have c3 := fcell hF (b := w.heap.size) (o := 3) (v := .int .i64 rs2) (by simp [go_sem])
        have c4 := fcell hF (b := w.heap.size) (o := 4) (v := .int .u32 imm) (by simp [go_sem])
        have c5 := fcell hF (b := w.heap.size) (o := 5) (v := .int .i64 csr) (by simp [go_sem])
        repeat (go_big_quiet_step (first | (go_at_call 69; exact qbelow hS (only_c op rd rs1 rs2 imm csr f hf9 _)) | (go_at_call_of 70 (Value.int IntKind.i64 rd); exact qsame (reg_c rd _)) | (go_at_call_of 70 (Value.int IntKind.i64 rs1); exact qsame (reg_c rs1 _)) | (go_at_call_of 70 (Value.int IntKind.i64 rs2); exact qsame (reg_c rs2 _))))
        refine wpQuiet_nil ?_
        intro w1 hw1
        obtain ⟨s1, rfl⟩ := hw1
        have hb1 := bthen (bal (Below.refl w.heap.size w) _) (hF s1)
        have c0 := c0 s1
        have c4 := c4 s1
        have c5 := c5 s1
        clear c1 c2 c3 hF hS
        generalize F s1 = w1 at *
        go_wp2_with (go_at_call 71; refine (num_c imm hi f hf9 _).mono ?_; rintro e w' ⟨rfl, rfl⟩)
        go_ret
        exact ⟨by first | (simp [b9, k1]; done) | (simp [b9, k1]; omega), hb1⟩
    · go_enter Tryd.func44, Tryd.ntmps44
      go_wp2_with (go_at_call 46; refine (form_c op _ (HF.out.below (bal (Below.refl _ _) _))).mono ?_; rintro e w' ⟨rfl, rfl⟩; rw [HFV.out, he])
      refine wp_region_below (by kernel_rfl) (by kernel_rfl) ?_
      intro S _ F hF hS
      have c0 := fcell hF (b := w.heap.size) (o := 0) (v := .int .i64 op) (by simp [go_sem])
      have c1 := fcell hF (b := w.heap.size) (o := 1) (v := .int .i64 rd) (by simp [go_sem])
      have c2 := fcell hF (b := w.heap.size) (o := 2) (v := .int .i64 rs1) (by simp [go_sem])
      have c3 := fcell hF (b := w.heap.size) (o := 3) (v := .int .i64 rs2) (by simp [go_sem])
      have c4 := fcell hF (b := w.heap.size) (o := 4) (v := .int .u32 imm) (by simp [go_sem])
      have c5 := fcell hF (b := w.heap.size) (o := 5) (v := .int .i64 csr) (by simp [go_sem])
      repeat (go_big_quiet_step (first | (go_at_call 69; exact qbelow hS (only_c op rd rs1 rs2 imm csr f hf9 _)) | (go_at_call_of 70 (Value.int IntKind.i64 rd); exact qsame (reg_c rd _)) | (go_at_call_of 70 (Value.int IntKind.i64 rs1); exact qsame (reg_c rs1 _)) | (go_at_call_of 70 (Value.int IntKind.i64 rs2); exact qsame (reg_c rs2 _))))
      refine wpQuiet_nil ?_
      intro w1 hw1
      obtain ⟨s1, rfl⟩ := hw1
      have hb1 := bthen (bal (Below.refl w.heap.size w) _) (hF s1)
      have c0 := c0 s1
      have c4 := c4 s1
      have c5 := c5 s1
      clear c1 c2 c3 hF hS
      generalize F s1 = w1 at *
      go_wp2_with (go_at_call 71; refine (num_c imm hi f hf9 _).mono ?_; rintro e w' ⟨rfl, rfl⟩)
      go_ret
      exact ⟨by simp [b9], hb1⟩
  · have he : hasE op = 9 := by simp [hasE, h]
    have hv : rightB op rd rs1 rs2 imm csr = false := by simp [rightB, h]
    rw [hv]
    go_enter Tryd.func44, Tryd.ntmps44
    go_wp2_with (go_at_call 46; refine (form_c op _ (HF.out.below (bal (Below.refl _ _) _))).mono ?_; rintro e w' ⟨rfl, rfl⟩)
    go_quiet (fail)
    go_wp2
    go_ret
    exact ⟨rfl, bdn (bal (Below.refl _ _) _) _⟩
end Go.Proofs.YtnooikjkjcflbadDoor
