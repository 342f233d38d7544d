/- Contract of the reference's Decode of layer 3. Conditions: a word is a word. -/
import Derived.Test.YtnooikjkjcflbadDoorDg
import Derived.Test.YtnooikjkjcflbadDoorDn
namespace Go.Proofs.YtnooikjkjcflbadDoor
open Go.RowKit Go.Proofs.YtnooikjkjcflbadDoorW.PrintWords Go.Proofs.YtnooikjkjcflbadDoorW.PrintLast Go.Proofs.YtnooikjkjcflbadDoorW.PrintMore Go.Proofs.YtnooikjkjcflbadDoor.PDisasmWords
set_option linter.unusedVariables false
set_option linter.unusedSimpArgs false

attribute [local go_sem] alloc_out setCell_out
theorem drform_rng (op : Int) : 0 ≤ rformV op ∧ rformV op ≤ 9 := by
  unfold rformV
  repeat' split
  all_goals omega
theorem dform_same (op : Int) (h : 0 ≤ op ∧ op ≤ 57) : formV op = rformV op := by
  obtain ⟨i, rfl⟩ := Int.eq_ofNat_of_zero_le h.1
  have hh : hasB (i : Int) = true := by simp [hasB]; omega
  unfold formV
  rw [if_pos hh]
  have : ∀ i, i < 58 → formsAt i = rformV i := by decide +kernel
  simpa using this i (by omega)
set_option maxHeartbeats 16000000 in
set_option maxRecDepth 100000 in
theorem rdec_c (w : Int) (h : 0 ≤ w ∧ w ≤ 4294967295) (W : World) : Calls Tryd.prog 55 #[.int .u32 w] W fun e w' => e = .returned (insV w (kindV w) (rformV (kindV w))) ∧ Below W.heap.size W w' := by
  have hbw := bal (bal (Below.refl W.heap.size W) (.cells #[.int .i64 0, .int .i64 0, .int .i64 0, .int .i64 0, .int .u32 0, .int .i64 0] 53)) (.cells patCells.toArray 113)
  have hc := fun (j : Nat) => (show ((W.alloc (.cells #[.int .i64 0, .int .i64 0, .int .i64 0, .int .i64 0, .int .u32 0, .int .i64 0] 53)).alloc (.cells patCells.toArray 113)).cell? ⟨W.heap.size + 1, j, none⟩ = patCells[j]? by simp [go_sem])
  have hc0 : ((W.alloc (.cells #[.int .i64 0, .int .i64 0, .int .i64 0, .int .i64 0, .int .u32 0, .int .i64 0] 53)).alloc (.cells patCells.toArray 113)).heap.size = W.heap.size + 1 + 1 := by simp
  have hq : ((W.alloc (.cells #[.int .i64 0, .int .i64 0, .int .i64 0, .int .i64 0, .int .u32 0, .int .i64 0] 53)).alloc (.cells patCells.toArray 113)).cell? ⟨W.heap.size, 0, none⟩ = some (.int .i64 0) ∧ ((W.alloc (.cells #[.int .i64 0, .int .i64 0, .int .i64 0, .int .i64 0, .int .u32 0, .int .i64 0] 53)).alloc (.cells patCells.toArray 113)).cell? ⟨W.heap.size, 1, none⟩ = some (.int .i64 0) ∧ ((W.alloc (.cells #[.int .i64 0, .int .i64 0, .int .i64 0, .int .i64 0, .int .u32 0, .int .i64 0] 53)).alloc (.cells patCells.toArray 113)).cell? ⟨W.heap.size, 2, none⟩ = some (.int .i64 0) ∧ ((W.alloc (.cells #[.int .i64 0, .int .i64 0, .int .i64 0, .int .i64 0, .int .u32 0, .int .i64 0] 53)).alloc (.cells patCells.toArray 113)).cell? ⟨W.heap.size, 3, none⟩ = some (.int .i64 0) ∧ ((W.alloc (.cells #[.int .i64 0, .int .i64 0, .int .i64 0, .int .i64 0, .int .u32 0, .int .i64 0] 53)).alloc (.cells patCells.toArray 113)).cell? ⟨W.heap.size, 4, none⟩ = some (.int .u32 0) ∧ ((W.alloc (.cells #[.int .i64 0, .int .i64 0, .int .i64 0, .int .i64 0, .int .u32 0, .int .i64 0] 53)).alloc (.cells patCells.toArray 113)).cell? ⟨W.heap.size, 5, none⟩ = some (.int .i64 0) := by simp [go_sem]
  have hz5 : ∀ j, ((W.alloc (.cells #[.int .i64 0, .int .i64 0, .int .i64 0, .int .i64 0, .int .u32 0, .int .i64 0] 53)).alloc (.cells patCells.toArray 113)).frozen? ⟨W.heap.size, j, none⟩ = false := fun j => by simp [go_sem]
  have H := Lib.hid h
  have hi := Lib.hid (rimm_d w h)
  have hrb := Lib.hid (rb_facts w h)
  have hp := Lib.hid rpat_c
  have hrf := Lib.hid rform_c
  obtain ⟨V, hV⟩ : ∃ V, V = insV w (kindV w) (rformV (kindV w)) := ⟨_, rfl⟩
  rw [← hV]
  have HV := Lib.hid hV
  clear hV
  obtain ⟨h0, h1⟩ := h
  go_enter Tryd.func55, Tryd.ntmps55
  go_wp2_with fail
  refine (hp.out _).mono ?_
  rintro e w1 ⟨rfl, hw⟩
  rw [hw] at hbw hc hc0 hq hz5
  have HQ := Lib.hid hq
  have HZ5 := Lib.hid hz5
  have HBW := Lib.hid hbw
  have HC := Lib.hid hc
  clear hw hbw hc hq hz5
  go_wp2
  go_loopw [4] (fun i wr => ∃ k : Nat, k ≤ 57 ∧ i = .int .i64 k ∧ (∀ j, j < k → matchB w j = false) ∧ Below w1.heap.size w1 wr) (fun i _ => 57 - (intOf i).toNat)
  case atStart => exact ⟨0, by omega, rfl, fun j h => by omega, Below.refl _ _⟩
  case round =>
    obtain ⟨k, hk, rfl, hn, hbr⟩ := hrel
    have HN := Lib.hid hn
    have HBR := Lib.hid hbr
    have hcr := bcf hbr
    clear hn hbr
    have q0 := (hcr.1 W.heap.size 0 (by omega)).trans HQ.out.1
    have q1 := (hcr.1 W.heap.size 1 (by omega)).trans HQ.out.2.1
    have q2 := (hcr.1 W.heap.size 2 (by omega)).trans HQ.out.2.2.1
    have q3 := (hcr.1 W.heap.size 3 (by omega)).trans HQ.out.2.2.2.1
    have q4 := (hcr.1 W.heap.size 4 (by omega)).trans HQ.out.2.2.2.2.1
    have q5 := (hcr.1 W.heap.size 5 (by omega)).trans HQ.out.2.2.2.2.2
    have z0 := (hcr.2 W.heap.size 0 (by omega)).trans (HZ5.out 0)
    have z1 := (hcr.2 W.heap.size 1 (by omega)).trans (HZ5.out 1)
    have z2 := (hcr.2 W.heap.size 2 (by omega)).trans (HZ5.out 2)
    have z3 := (hcr.2 W.heap.size 3 (by omega)).trans (HZ5.out 3)
    have z4 := (hcr.2 W.heap.size 4 (by omega)).trans (HZ5.out 4)
    have z5 := (hcr.2 W.heap.size 5 (by omega)).trans (HZ5.out 5)
    by_cases hlt : k < 57
    · have c0 := ((hcr.1 (W.heap.size + 1) (k * 2) (by omega)).trans (HC.out (k * 2))).trans (pat_cells_dec k hlt).1
      have c1 := ((hcr.1 (W.heap.size + 1) (k * 2 + 1) (by omega)).trans (HC.out (k * 2 + 1))).trans (pat_cells_dec k hlt).2
      have i1 : (0 : Int) ≤ (k : Int) := by omega
      have i2 : (k : Int) < 57 := by omega
      have hm := match_iff w H.out k hlt
      have HM := Lib.hid hm
      clear hm hcr
      rcases Bool.eq_false_or_eq_true (matchB w k) with hb | hb
      rotate_left
      · have HB := Lib.hid hb
        have b1 : (bits .and .u32 w (patM k) != patX k) = true := by unfold matchB at hb; simp only [bne, hb, Bool.not_false]
        clear hb
        go_wp2
        go_quiet (fail)
        go_wp2
        go_roundw
        case rel => exact ⟨k + 1, by omega, by go_num, fun j hj => by rcases Nat.lt_succ_iff_lt_or_eq.mp hj with h | h; exact HN.out j h; subst h; exact HB.out, bdn HBR.out _⟩
        case measure => simp [intOf]; omega
      · have hkv := HM.out.mp hb
        have b1 : (bits .and .u32 w (patM k) != patX k) = false := by unfold matchB at hb; simp only [bne, hb, Bool.not_true]
        have hV2 := HV.out
        rw [hkv] at hV2
        clear hb hkv HM HN HV
        have hfr := drform_rng ((k : Int) + 1)
        have hz : w1.heap.size ≤ wr.heap.size := HBR.out.size
        have HR2 := Lib.hid (bthen HBW.out HBR.out)
        have hr3 := hrf.out ((k : Int) + 1)
        have HR3 := Lib.hid hr3
        have n1 : ¬ W.heap.size = wr.heap.size := by omega
        have n2 : W.heap.size < wr.heap.size := by omega
        clear hr3
        generalize rformV ((k : Int) + 1) = f at *
        have HV := Lib.hid hV2
        clear hV2
        go_wp2
        go_quiet (fail)
        rcases (by omega : f = 0 ∨ f = 1 ∨ f = 2 ∨ f = 3 ∨ f = 4 ∨ f = 5 ∨ f = 6 ∨ f = 7 ∨ f = 8 ∨ f = 9) with rfl | rfl | rfl | rfl | rfl | rfl | rfl | rfl | rfl | rfl
        all_goals
          have hi2 := Lib.hid (hi.out _ hfr)
          clear hi hfr
          go_wp2_with (first | (go_at_call 54; refine (HR3.out _).mono ?_; rintro e w' ⟨rfl, rfl⟩) | (go_at_call 77; refine (hi2.out _).mono ?_; rintro e w' ⟨rfl, ⟨nd, rfl⟩⟩) | (go_at_call_of 78 (Value.int IntKind.u32 w); refine (mimesisref03_bits.calls 40 w _ _ _ _ (by first | exact hrb.out.2.2.2.2.2.1 | exact hrb.out.2.2.2.2.2.2.2.2.2.2.1 | exact hrb.out.2.2.2.2.2.2.2.2.2.2.2.1 | exact hrb.out.2.2.2.2.2.2.2.2.2.2.2.2)).mono ?_; rintro e w' ⟨rfl, ⟨nd, rfl⟩⟩))
          refine bodyPost_ret (v := V) ?_ rfl ⟨rfl, ?_⟩
          · rw [HV.out]
            simp [results, Tryd.results55, go_sem, insV, oRd, oRs1, oRs2, oCsr, n1, n2, q0, q1, q2, q3, q4, q5]
          · repeat (first | (with_reducible exact HR2.out) | (with_reducible refine bal ?_ _) | (with_reducible refine bset ?_ ?_ _; rotate_left; (simp <;> omega)) | (with_reducible refine Below.drew ?_) | (with_reducible refine bdn ?_ _))
    · have hk8 : k = 57 := by omega
      subst hk8
      have hkz := kind_zero w H.out HN.out
      have hV2 := HV.out
      rw [hkz] at hV2
      have HV2 := Lib.hid hV2
      have HR2 := Lib.hid (bthen HBW.out HBR.out)
      have hz : w1.heap.size ≤ wr.heap.size := HBR.out.size
      have n1 : ¬ W.heap.size = wr.heap.size := by omega
      have n2 : W.heap.size < wr.heap.size := by omega
      clear hV2 hkz HV hcr
      go_wp2
      refine bodyPost_ret (v := V) ?_ rfl ⟨rfl, ?_⟩
      · rw [HV2.out]
        simp [results, Tryd.results55, go_sem, insV, rformV, oRd, oRs1, oRs2, oCsr, immV, n1, n2, q0, q1, q2, q3, q4, q5]
      · repeat (first | (with_reducible exact HR2.out) | (with_reducible refine bal ?_ _) | (with_reducible refine bset ?_ ?_ _; rotate_left; (simp <;> omega)) | (with_reducible refine Below.drew ?_) | (with_reducible refine bdn ?_ _))
end Go.Proofs.YtnooikjkjcflbadDoor
