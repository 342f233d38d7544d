/- The walk of the law DecodeWords: it returns true. Conditions: a word is a word; the listed variable holds what the program's text lays in it. -/
import Derived.Test.YtnooikjkjcflbabDoorDh
import Derived.Test.YtnooikjkjcflbabDoorRg
namespace Go.Proofs.YtnooikjkjcflbabDoor
open Go.RowKit Go.Proofs.YtnooikjkjcflbabDoorW.PrintWords Go.Proofs.YtnooikjkjcflbabDoorW.PrintLast Go.Proofs.YtnooikjkjcflbabDoorW.PrintMore Go.Proofs.YtnooikjkjcflbabDoor.PDecodeWords
set_option linter.unusedVariables false
set_option linter.unusedSimpArgs false

theorem drawn_below {P : Program} {f : FuncId} {args : Array Value} {S : Type} {F : S → World} (hS : ∀ s v, Below (F s).heap.size (F s) v → ∃ s', v = F s') {s : S} {v : Value} (h : Calls P f args (F s) fun e w' => e = .returned v ∧ Drawn0 (F s) w') : Calls P f args (F s) fun e w' => e = .returned v ∧ ∃ s', w' = F s' :=
  h.mono fun _ _ h => ⟨h.1, hS _ _ h.2.below⟩
theorem kind_a : kindV 10485907 = 19 ∧ formV 19 = 3 ∧ kindV 115 = 40 ∧ kindV 0 = 0 := by decide +kernel
theorem ins_a : insV 10485907 19 3 = .agg #[.int .i64 19, .int .i64 1, .int .i64 0, .int .i64 0, .int .u32 10, .int .i64 0] := by
  have h : immV 10485907 3 = 10 := by decide +kernel
  simp [insV, oRd, oRs1, oRs2, oCsr, h]
theorem awake3_c (W : World) (hf : FormsIs W) : Calls Tryd.prog 43 #[] W fun e w' => e = .returned (.bool true) ∧ Below W.heap.size W w' := by
  have h1 := fun (v : World) (hv : FormsIs v) => dec_c 10485907 (by decide) v hv
  rw [kind_a.1, kind_a.2.1, ins_a] at h1
  have h2 := dlegal_c 115 (by decide)
  have h3 := dlegal_c 0 (by decide)
  rw [show legalB 115 = true by unfold legalB; rw [kind_a.2.2.1]; rfl] at h2
  rw [show legalB 0 = false by unfold legalB; rw [kind_a.2.2.2]; rfl] at h3
  have H1 := Lib.hid h1
  have H2 := Lib.hid h2
  have H3 := Lib.hid h3
  have HF := Lib.hid hf
  clear h1 h2 h3 hf
  go_enter Tryd.func43, Tryd.ntmps43
  go_wp2_with fail
  refine (H1.out _ HF.out).mono ?_
  rintro e w1 ⟨rfl, hb1⟩
  go_wp2_with (first | (go_at_call_of 42 (Value.int IntKind.u32 115); refine (H2.out _).mono ?_; rintro e w' ⟨rfl, ⟨nd, rfl⟩⟩) | (go_at_call_of 42 (Value.int IntKind.u32 0); refine (H3.out _).mono ?_; rintro e w' ⟨rfl, ⟨nd, rfl⟩⟩))
  go_ret
  exact ⟨rfl, by repeat (first | (with_reducible exact hb1) | (with_reducible refine bdn ?_ _))⟩
set_option maxHeartbeats 4000000 in
theorem dwords_w (w : Int) (h : 0 ≤ w ∧ w ≤ 4294967295) (W : World) (hf : FormsIs W) : Calls Tryd.prog 9 #[.int .u32 w] W fun e w' => e = .returned (.bool true) ∧ Below W.heap.size W w' := by
  have h1 := fun (v : World) => rdec_c w h v
  rw [← dform_same (kindV w) (kind_rng w)] at h1
  have h2 := fun (v : World) (hv : FormsIs v) => dec_c w h v hv
  have h3 := dlegal_c w h
  unfold legalB at h3
  have H1 := Lib.hid h1
  have H2 := Lib.hid h2
  have H3 := Lib.hid h3
  have HF := Lib.hid hf
  clear h1 h2 h3 hf h
  unfold insV at H1 H2
  generalize formV (kindV w) = f at *
  generalize kindV w = op at *
  generalize oRd f (w / 128 % 32) = x1 at *
  generalize oRs1 f (w / 32768 % 32) = x2 at *
  generalize oRs2 f (w / 1048576 % 32) = x3 at *
  generalize immV w f = x4 at *
  generalize oCsr f (w / 1048576) = x5 at *
  go_enter Tryd.func9, Tryd.ntmps9
  go_wp2_with fail
  refine (H1.out _).mono ?_
  rintro e w1 ⟨rfl, hb1⟩
  have HB1 := Lib.hid hb1
  clear hb1
  go_wp2
  refine wp_region_below (by kernel_rfl) (by kernel_rfl) ?_
  intro S _ F hF hS
  have c0 := fcell hF (b := w1.heap.size) (o := 0) (v := .int .i64 op) (by simp [go_sem])
  have c1 := fcell hF (b := w1.heap.size) (o := 1) (v := .int .i64 x1) (by simp [go_sem])
  have c2 := fcell hF (b := w1.heap.size) (o := 2) (v := .int .i64 x2) (by simp [go_sem])
  have c3 := fcell hF (b := w1.heap.size) (o := 3) (v := .int .i64 x3) (by simp [go_sem])
  have c4 := fcell hF (b := w1.heap.size) (o := 4) (v := .int .u32 x4) (by simp [go_sem])
  have c5 := fcell hF (b := w1.heap.size) (o := 5) (v := .int .i64 x5) (by simp [go_sem])
  have HRF : ∀ s, Hid (FormsIs (F s)) := fun s => Lib.hid (HF.out.below (bthen (bal HB1.out _) (hF s)))
  repeat (go_big_quiet_step (first | (go_at_call 41; exact qbelow hS (H2.out _ (HRF _).out)) | (go_at_call 42; exact drawn_below hS (H3.out _)) | (go_at_call 43; exact qbelow hS (awake3_c _ (HRF _).out))))
  refine wpQuiet_nil ?_
  intro w3 hw3
  obtain ⟨s3, rfl⟩ := hw3
  have hb3 := bthen (bal HB1.out _) (hF s3)
  clear c0 c1 c2 c3 c4 c5 hF hS HRF
  generalize F s3 = w3 at *
  go_wp2
  go_ret
  exact ⟨rfl, hb3⟩
end Go.Proofs.YtnooikjkjcflbabDoor
