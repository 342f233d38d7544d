/- Contracts of package decode's laid, Decode and Legal, and of the reference's Patterns and Decode. Conditions: a word is a word; the listed variable holds what the program's text lays in it. -/
import Derived.Test.YtnooikjkjcflbadDoorDe
namespace Go.Proofs.YtnooikjkjcflbadDoor
open Go.RowKit Go.Proofs.YtnooikjkjcflbadDoorW.PrintWords Go.Proofs.YtnooikjkjcflbadDoorW.PrintLast Go.Proofs.YtnooikjkjcflbadDoorW.PrintMore Go.Proofs.YtnooikjkjcflbadDoor.PDisasmWords
set_option linter.unusedVariables false
set_option linter.unusedSimpArgs false

def insV (w op f : Int) : Value := .agg #[.int .i64 op, .int .i64 (oRd f (w / 128 % 32)), .int .i64 (oRs1 f (w / 32768 % 32)), .int .i64 (oRs2 f (w / 1048576 % 32)), .int .u32 (immV w f), .int .i64 (oCsr f (w / 1048576))]
theorem dform_rng (op : Int) : 0 ≤ formV op ∧ formV op ≤ 9 := by
  unfold formV
  split
  · have h : ∀ i, i < 58 → 0 ≤ formsAt i ∧ formsAt i ≤ 9 := by decide +kernel
    rename_i h1
    obtain ⟨h2, h3⟩ := has_t h1
    exact h _ (by omega)
  · omega
set_option maxHeartbeats 8000000 in
set_option maxRecDepth 100000 in
theorem laid_c (w : Int) (h : 0 ≤ w ∧ w ≤ 4294967295) (op : Int) (W : World) (hf : FormsIs W) : Calls Tryd.prog 80 #[.int .u32 w, .int .i64 op] W fun e w' => e = .returned (insV w op (formV op)) ∧ Below W.heap.size W w' := by
  have HF := Lib.hid hf
  have hr := dform_rng op
  have hx := Lib.hid (form_c op)
  have D := Lib.hid (dfield w h)
  have d4 := Lib.hid (fun f hf v => decode_number.calls w f _ v (dnum w h f hf))
  have hbw := Lib.hid (bal (Below.refl W.heap.size W) (.cells #[.int .i64 0, .int .i64 0, .int .i64 0, .int .i64 0, .int .u32 0, .int .i64 0] 53))
  obtain ⟨h0, h1⟩ := h
  clear hf
  generalize formV op = f at *
  obtain ⟨V, hV⟩ : ∃ V, V = insV w op f := ⟨_, rfl⟩
  rw [← hV]
  have HV := Lib.hid hV
  clear hV
  rcases (by omega : f = 0 ∨ f = 1 ∨ f = 2 ∨ f = 3 ∨ f = 4 ∨ f = 5 ∨ f = 6 ∨ f = 7 ∨ f = 8 ∨ f = 9) with rfl | rfl | rfl | rfl | rfl | rfl | rfl | rfl | rfl | rfl
  all_goals
    clear hr
    go_enter Tryd.func80, Tryd.ntmps80
    go_wp2_with (first | (go_at_call 46; refine (hx.out _ (HF.out.below hbw.out)).mono ?_; rintro e w' ⟨rfl, rfl⟩) | (go_at_call 102; refine (d4.out _ (by decide) _).mono ?_; rintro e w' ⟨rfl, ⟨nd, rfl⟩⟩) | (go_at_call_of 96 (Value.int IntKind.u32 w); refine (decode_field.calls w _ _ _ _ (by first | exact D.out.2.2.2.1 | exact D.out.2.2.1 | exact D.out.2.1)).mono ?_; rintro e w' ⟨rfl, ⟨nd, rfl⟩⟩))
    refine bodyPost_ret (v := V) ?_ rfl ⟨rfl, ?_⟩
    · rw [HV.out]
      simp [results, Tryd.results80, go_sem, insV, oRd, oRs1, oRs2, oCsr]
    · repeat (first | (with_reducible exact Below.refl _ _) | (with_reducible refine bal ?_ _) | (with_reducible refine bset ?_ ?_ _; rotate_left; (simp <;> omega)) | (with_reducible refine Below.drew ?_) | (with_reducible refine bdn ?_ _))
end Go.Proofs.YtnooikjkjcflbadDoor
