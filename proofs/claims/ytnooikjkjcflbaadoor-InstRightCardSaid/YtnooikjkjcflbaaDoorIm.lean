/- The walk of the law InstRight, and that the two tests of an instruction are one. Conditions: the listed variables hold what the program's text lays in them; words are words. -/
import Derived.Test.YtnooikjkjcflbaaDoorIr3
import Derived.Test.YtnooikjkjcflbaaDoorIl
namespace Go.Proofs.YtnooikjkjcflbaaDoor
open Go.RowKit
set_option linter.unusedVariables false
set_option linter.unusedSimpArgs false

theorem form_same {op : Int} (h : hasB op = true) : formV op = rformV op := by
  obtain ⟨h0, h1⟩ := has_t h
  obtain ⟨i, rfl⟩ := Int.eq_ofNat_of_zero_le h0
  rw [formV, if_pos h, form_eq i (by omega)]; rfl
theorem right_same (op rd rs1 rs2 imm csr : Int) (hi : 0 ≤ imm ∧ imm ≤ 4294967295) : rightB op rd rs1 rs2 imm csr = rrightB op rd rs1 rs2 imm csr := by
  rcases Bool.eq_false_or_eq_true (hasB op) with h | h
  · have hf := form_same h
    have hr := rform_rng op
    simp only [rightB, rrightB, h, hf, Bool.true_and]
    generalize rformV op = f at *
    clear hf h
    rcases (by omega : f = 0 ∨ f = 1 ∨ f = 2 ∨ f = 3 ∨ f = 4 ∨ f = 5 ∨ f = 6 ∨ f = 7 ∨ f = 8 ∨ f = 9) with rfl | rfl | rfl | rfl | rfl | rfl | rfl | rfl | rfl | rfl
    all_goals
      rw [Bool.eq_iff_iff]
      simp [onlyB, oRd, oRs1, oRs2, oImm, oCsr, regB, rregB, numB, evB, rimmB, rsigB]
      try grind
  · simp [rightB, rrightB, h]
theorem iright_w (op rd rs1 rs2 imm csr : Int) (hi : 0 ≤ imm ∧ imm ≤ 4294967295) (w : World) (hn : NamesIs w) (hf : FormsIs w) : Calls Tryd.prog 10 #[.agg #[.int .i64 op, .int .i64 rd, .int .i64 rs1, .int .i64 rs2, .int .u32 imm, .int .i64 csr]] w fun e w' => e = .returned (.bool true) ∧ Below w.heap.size w w' := by
  have HN := Lib.hid hn
  have HF := Lib.hid hf
  clear hn hf
  have hs := right_same op rd rs1 rs2 imm csr hi
  generalize hr1 : rightB op rd rs1 rs2 imm csr = b1 at hs
  generalize hr2 : rrightB op rd rs1 rs2 imm csr = b2 at hs
  subst hs
  go_enter Tryd.func10, Tryd.ntmps10
  go_wp2_with fail
  refine wp_region_below (by kernel_rfl) (by kernel_rfl) ?_
  intro S _ F hF hS
  have c0 := fcell hF (b := w.heap.size) (o := 0) (v := .int .i64 op) (by simp [go_sem])
  have c1 := fcell hF (b := w.heap.size) (o := 1) (v := .int .i64 rd) (by simp [go_sem])
  have c2 := fcell hF (b := w.heap.size) (o := 2) (v := .int .i64 rs1) (by simp [go_sem])
  have c3 := fcell hF (b := w.heap.size) (o := 3) (v := .int .i64 rs2) (by simp [go_sem])
  have c4 := fcell hF (b := w.heap.size) (o := 4) (v := .int .u32 imm) (by simp [go_sem])
  have c5 := fcell hF (b := w.heap.size) (o := 5) (v := .int .i64 csr) (by simp [go_sem])
  repeat (go_big_quiet_step (first | (go_at_call 38; exact qbelow hS (hr1 ▸ right_c op rd rs1 rs2 imm csr hi _ (HF.out.below (bthen (bal (Below.refl _ _) _) (hF _))))) | (go_at_call 39; exact qbelow hS (hr2 ▸ rright_c op rd rs1 rs2 imm csr hi _)) | (go_at_call 34; exact qbelow hS (awake2_c _ (HN.out.below (bthen (bal (Below.refl _ _) _) (hF _))) (HF.out.below (bthen (bal (Below.refl _ _) _) (hF _)))))))
  refine wpQuiet_nil ?_
  intro w1 hw1
  obtain ⟨s1, rfl⟩ := hw1
  have hb1 := bthen (bal (Below.refl w.heap.size w) _) (hF s1)
  clear c0 c1 c2 c3 c4 c5 hF hS
  generalize F s1 = w1 at *
  go_wp2
  go_ret
  exact ⟨by simp, hb1⟩
end Go.Proofs.YtnooikjkjcflbaaDoor
