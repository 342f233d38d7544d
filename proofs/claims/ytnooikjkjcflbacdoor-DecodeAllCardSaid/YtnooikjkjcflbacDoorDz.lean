/- Contract of the laws' example of layer 3: it returns true. Conditions: a word is a word; the listed variable holds what the program's text lays in it. -/
import Derived.Test.YtnooikjkjcflbacDoorDh
import Derived.Test.YtnooikjkjcflbacDoorRg
namespace Go.Proofs.YtnooikjkjcflbacDoor
open Go.RowKit Go.Proofs.YtnooikjkjcflbacDoorW.PrintWords Go.Proofs.YtnooikjkjcflbacDoorW.PrintLast Go.Proofs.YtnooikjkjcflbacDoorW.PrintMore Go.Proofs.YtnooikjkjcflbacDoor.PDecodeAll
set_option linter.unusedVariables false
set_option linter.unusedSimpArgs false

theorem drawn_below {P : Program} {f : FuncId} {args : Array Value} {S : Type} {F : S → World} (hS : ∀ s v, Below (F s).heap.size (F s) v → ∃ s', v = F s') {s : S} {v : Value} (h : Calls P f args (F s) fun e w' => e = .returned v ∧ Drawn0 (F s) w') : Calls P f args (F s) fun e w' => e = .returned v ∧ ∃ s', w' = F s' :=
  h.mono fun _ _ h => ⟨h.1, hS _ _ h.2.below⟩
theorem kind_a : kindV 10485907 = 19 ∧ formV 19 = 3 ∧ kindV 115 = 40 ∧ kindV 0 = 0 := by decide +kernel
theorem ins_a : insV 10485907 19 3 = .agg #[.int .i64 19, .int .i64 1, .int .i64 0, .int .i64 0, .int .u32 10, .int .i64 0] := by
  have h : immV 10485907 3 = 10 := by decide +kernel
  simp [insV, oRd, oRs1, oRs2, oCsr, h]
theorem awake3_c (W : World) (hf : FormsIs W) : Calls Tryd.prog 11 #[] W fun e w' => e = .returned (.bool true) ∧ Below W.heap.size W w' := by
  have h1 := fun (v : World) (hv : FormsIs v) => dec_c 10485907 (by decide) v hv
  rw [kind_a.1, kind_a.2.1, ins_a] at h1
  have h2 := dlegal_c 115 (by decide)
  have h3 := dlegal_c 0 (by decide)
  rw [show legalB 115 = true by unfold legalB; rw [kind_a.2.2.1]; rfl] at h2
  rw [show legalB 0 = false by unfold legalB; rw [kind_a.2.2.2]; rfl] at h3
  have H1 := Lib.hid h1
  have H2 := Lib.hid h2
  have H3 := Lib.hid h3
  have HF := Lib.hid hf
  clear h1 h2 h3 hf
  go_enter Tryd.func11, Tryd.ntmps11
  go_wp2_with fail
  refine (H1.out _ HF.out).mono ?_
  rintro e w1 ⟨rfl, hb1⟩
  go_wp2_with (first | (go_at_call_of 29 (Value.int IntKind.u32 115); refine (H2.out _).mono ?_; rintro e w' ⟨rfl, ⟨nd, rfl⟩⟩) | (go_at_call_of 29 (Value.int IntKind.u32 0); refine (H3.out _).mono ?_; rintro e w' ⟨rfl, ⟨nd, rfl⟩⟩))
  go_ret
  exact ⟨rfl, by repeat (first | (with_reducible exact hb1) | (with_reducible refine bdn ?_ _))⟩
end Go.Proofs.YtnooikjkjcflbacDoor
