/- Contracts of package decode's Decode and Legal, and of the reference's Patterns. Conditions: a word is a word; the listed variable holds what the program's text lays in it. -/
import Derived.Test.YtnooikjkjcflbadDoorDf
namespace Go.Proofs.YtnooikjkjcflbadDoor
open Go.RowKit Go.Proofs.YtnooikjkjcflbadDoorW.PrintWords Go.Proofs.YtnooikjkjcflbadDoorW.PrintLast Go.Proofs.YtnooikjkjcflbadDoorW.PrintMore Go.Proofs.YtnooikjkjcflbadDoor.PDisasmWords
set_option linter.unusedVariables false
set_option linter.unusedSimpArgs false

theorem form_zero : formV 0 = 0 := by decide +kernel
theorem dec_c (w : Int) (h : 0 ≤ w ∧ w ≤ 4294967295) (W : World) (hf : FormsIs W) : Calls Tryd.prog 56 #[.int .u32 w] W fun e w' => e = .returned (insV w (kindV w) (formV (kindV w))) ∧ Below W.heap.size W w' := by
  have hk := Lib.hid (kind_d w h)
  have hbw := bal (Below.refl W.heap.size W) (.cells #[.int .i64 0, .int .i64 0, .int .i64 0, .int .i64 0, .int .u32 0, .int .i64 0] 53)
  have HBW := Lib.hid hbw
  have HF := Lib.hid (fun n => hf.below (bdn hbw n))
  have hl := Lib.hid (laid_c w h)
  clear hf hbw h
  by_cases hz : kindV w = 0
  · have HZ := Lib.hid hz
    rw [hz, form_zero]
    rw [hz] at hk
    clear hz
    go_enter Tryd.func56, Tryd.ntmps56
    go_wp2_with (go_at_call 79; refine (hk.out _).mono ?_; rintro e w' ⟨rfl, ⟨nd, rfl⟩⟩)
    refine bodyPost_ret (v := insV w 0 0) (by simp [results, Tryd.results56, go_sem, insV, oRd, oRs1, oRs2, oCsr, immV]) rfl ⟨rfl, ?_⟩
    repeat (first | (with_reducible exact Below.refl _ _) | (with_reducible refine bal ?_ _) | (with_reducible refine bset ?_ ?_ _; rotate_left; (simp <;> omega)) | (with_reducible refine Below.drew ?_) | (with_reducible refine bdn ?_ _))
  · have k1 := nb hz
    obtain ⟨V, hV⟩ : ∃ V, V = insV w (kindV w) (formV (kindV w)) := ⟨_, rfl⟩
    rw [← hV]
    have HV := Lib.hid hV
    clear hV hz
    generalize kindV w = op at *
    go_enter Tryd.func56, Tryd.ntmps56
    go_wp2_with (go_at_call 79; refine (hk.out _).mono ?_; rintro e w' ⟨rfl, ⟨nd, rfl⟩⟩)
    refine (hl.out op _ (HF.out nd)).mono ?_
    rintro e w1 ⟨rfl, hb1⟩
    have HB1 := Lib.hid (bthen (bdn HBW.out nd) hb1)
    have hz1 : w.toNat = w.toNat := rfl
    have hlt : W.heap.size < w1.heap.size := by have := hb1.size; simp at this; omega
    have hc1 := (bcf hb1).1
    have hf1 := (bcf hb1).2
    clear hb1 hz1
    unfold insV
    go_wp2
    refine bodyPost_ret (v := V) (by rw [HV.out]; simp [results, Tryd.results56, go_sem, insV, hlt, hc1, hf1]) rfl ⟨rfl, ?_⟩
    repeat (first | (with_reducible exact HB1.out) | (with_reducible refine bal ?_ _) | (with_reducible refine bset ?_ ?_ _; rotate_left; (simp <;> omega)) | (with_reducible refine Below.drew ?_) | (with_reducible refine bdn ?_ _))
def legalB (w : Int) : Bool := kindV w != 0
def patCells : List Value := patsL.flatMap fun p => [.int .u32 p.1, .int .u32 p.2]
set_option maxHeartbeats 2000000 in
set_option maxRecDepth 100000 in
theorem rpat_c (w : World) : Calls Tryd.prog 76 #[] w fun e w' => e = .returned (.slice (some ⟨w.heap.size, 0, none⟩) 57 57) ∧ w.alloc (.cells patCells.toArray 113) = w' := by
  go_enter Tryd.func76, Tryd.ntmps76
  go_wp2
  go_ret
  exact ⟨rfl, congrArg (fun c => w.alloc (.cells c 113)) (by kernel_rfl)⟩
theorem pat_cells_dec : ∀ k, k < 57 → patCells[k * 2]? = some (.int .u32 (patM k)) ∧ patCells[k * 2 + 1]? = some (.int .u32 (patX k)) := by
  intro k hk
  have h0 : ∀ (l : List (Int × Int)) (k : Nat), k < l.length → (l.flatMap fun p => [Value.int .u32 p.1, .int .u32 p.2])[k * 2]? = some (.int .u32 (l.getD k (0, 0)).1) ∧ (l.flatMap fun p => [Value.int .u32 p.1, .int .u32 p.2])[k * 2 + 1]? = some (.int .u32 (l.getD k (0, 0)).2) := by
    intro l
    induction l with
    | nil => intro k hk; simp at hk
    | cons p l ih =>
      intro k hk
      cases k with
      | zero => simp
      | succ k =>
        have := ih k (by simpa using hk)
        rw [show (k + 1) * 2 = k * 2 + 2 by omega]
        simpa using this
  exact h0 patsL k (by simpa [patsL] using hk)
end Go.Proofs.YtnooikjkjcflbadDoor
