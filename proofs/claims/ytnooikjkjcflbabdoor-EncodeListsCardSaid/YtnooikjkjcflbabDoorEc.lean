/- Contract of encode.Encode: the word, or that there is none. Conditions: numbers are of their kinds; the listed variables hold what the program's text lays in them. -/
import Derived.Test.YtnooikjkjcflbabDoorEb
namespace Go.Proofs.YtnooikjkjcflbabDoor
open Go.RowKit
set_option linter.unusedVariables false
set_option linter.unusedSimpArgs false

def matOkB (f M : Int) : Bool := decide (0 ≤ M) && decide (M ≤ 4294967295) && (decide (f = 0) || (decide (M % 4096 < 128) && decide (M % 1048576 < 32768) && decide (M % 33554432 < 1048576))) && (decide (f = 0) || decide (f = 6) || decide (f = 7) || decide (M < 32768)) && (!(decide (f = 1) || decide (f = 2)) || decide (M < 128))
theorem mat_dec : ∀ i, i < 58 → 1 ≤ i → matOkB (formsAt i) (matchesAt i) = true := by decide +kernel
theorem mat_ok (op : Int) (h : 1 ≤ op ∧ op < 58) : MatOk (formV op) (matV op) := by
  obtain ⟨i, rfl⟩ := Int.eq_ofNat_of_zero_le (show 0 ≤ op by omega)
  have hh : hasB (i : Int) = true := by simp [hasB]; omega
  have hd := mat_dec i (by omega) (by omega)
  have e1 : formV (i : Int) = formsAt i := by unfold formV; rw [if_pos hh]; simp
  have e2 : matV (i : Int) = matchesAt i := by unfold matV; rw [if_pos h]; simp
  rw [e1, e2]
  generalize formsAt i = f at *
  generalize matchesAt i = M at *
  unfold matOkB at hd
  simp only [Bool.and_eq_true, Bool.or_eq_true, decide_eq_true_eq, Bool.not_eq_true', Bool.or_eq_false_iff, decide_eq_false_iff_not] at hd
  obtain ⟨⟨⟨⟨h0, h1⟩, h2⟩, h3⟩, h4⟩ := hd
  refine ⟨h0, h1, fun hf => ?_, fun hf => ?_, fun hf => ?_⟩
  · rcases h2 with h2 | h2
    · exact absurd h2 hf
    · exact ⟨h2.1.1, h2.1.2, h2.2⟩
  · rcases h3 with ((h3 | h3) | h3) | h3
    · exact absurd h3 hf.1
    · exact absurd h3 hf.2.1
    · exact absurd h3 hf.2.2
    · exact h3
  · rcases h4 with h4 | h4
    · rcases hf with hf | hf
      · exact absurd hf h4.1
      · exact absurd hf h4.2
    · exact h4
/-- What a right instruction's fields are. -/
theorem right_facts {op rd rs1 rs2 imm csr : Int} (h : rightB op rd rs1 rs2 imm csr = true) : hasB op = true ∧ (0 ≤ rd ∧ rd ≤ 31) ∧ (0 ≤ rs1 ∧ rs1 ≤ 31) ∧ (0 ≤ rs2 ∧ rs2 ≤ 31) ∧ (0 ≤ csr ∧ csr ≤ 4095) ∧
    oRd (formV op) rd = rd ∧ oRs1 (formV op) rs1 = rs1 ∧ oRs2 (formV op) rs2 = rs2 ∧ oImm (formV op) imm = imm ∧ oCsr (formV op) csr = csr ∧ numB (formV op) imm = true := by
  unfold rightB onlyB regB at h
  simp only [Bool.and_eq_true, decide_eq_true_eq, beq_iff_eq] at h
  obtain ⟨⟨⟨⟨⟨⟨⟨h0, h1⟩, h2⟩, h3⟩, h4⟩, h5⟩, h6⟩, h7⟩ := h
  exact ⟨h0, h2, h3, h4, ⟨h6, h7⟩, h1.1, h1.2.1, h1.2.2.1, h1.2.2.2.1, h1.2.2.2.2, h5⟩
def encV (op rd rs1 rs2 imm csr : Int) : Int := encS (formV op) (matV op) rd rs1 rs2 imm csr
theorem eform_rng (op : Int) : 0 ≤ formV op ∧ formV op ≤ 9 := form_rng op
set_option maxHeartbeats 4000000 in
theorem enc_ok (op rd rs1 rs2 imm csr : Int) (hi : 0 ≤ imm ∧ imm ≤ 4294967295) (ho : ¬ op = 0) (hr : rightB op rd rs1 rs2 imm csr = true) (w : World) (hf : FormsIs w) (hm : MatchesIs w) :
    Calls Tryd.prog 22 #[.agg #[.int .i64 op, .int .i64 rd, .int .i64 rs1, .int .i64 rs2, .int .u32 imm, .int .i64 csr]] w fun e w' => e = .returned (.tuple #[.int .u32 (encV op rd rs1 rs2 imm csr), .int .i64 0]) ∧ Below w.heap.size w w' := by
  obtain ⟨h0, h1, h2, h3, h4, k1, k2, k3, k4, k5, k6⟩ := right_facts hr
  have hop : 1 ≤ op ∧ op < 58 := by have := has_t h0; omega
  have hM := mat_ok op hop
  have he : hasE op = 0 := by simp [hasE, h0]
  have hme : matE op = 0 := by simp [matE, hop]
  have HM : Hid (∀ v, Below w.heap.size w v → Calls Tryd.prog 23 #[.int .i64 op] v fun e w' => e = .returned (.tuple #[.int .u32 (matV op), .int .i64 0]) ∧ v = w') := Lib.hid (fun v hv => hme ▸ match_t op v (hm.below hv))
  have HR : Hid (∀ v, Below w.heap.size w v → Calls Tryd.prog 44 #[.agg #[.int .i64 op, .int .i64 rd, .int .i64 rs1, .int .i64 rs2, .int .u32 imm, .int .i64 csr]] v fun e w' => e = .returned (.bool true) ∧ Below v.heap.size v w') := Lib.hid (fun v hv => hr ▸ right_c op rd rs1 rs2 imm csr hi v (hf.below hv))
  have HF : Hid (∀ v, Below w.heap.size w v → Calls Tryd.prog 53 #[.int .i64 op] v fun e w' => e = .returned (.tuple #[.int .i64 (formV op), .int .i64 0]) ∧ v = w') := Lib.hid (fun v hv => he ▸ form_c op v (hf.below hv))
  have hfr := eform_rng op
  unfold encV
  clear hr hme he hf hm h0 hop k6
  generalize formV op = f at *
  generalize matV op = M at *
  rcases (by omega : f = 0 ∨ f = 1 ∨ f = 2 ∨ f = 3 ∨ f = 4 ∨ f = 5 ∨ f = 6 ∨ f = 7 ∨ f = 8 ∨ f = 9) with rfl | rfl | rfl | rfl | rfl | rfl | rfl | rfl | rfl | rfl
  all_goals
    simp [oRd, oRs1, oRs2, oImm, oCsr] at k1 k2 k3 k4 k5
    try subst k1
    try subst k2
    try subst k3
    try subst k4
    try subst k5
    simp only [encS, Int.reduceEq, if_true, if_false]
  · exact enc_f0 op M hM w HM HR HF
  · exact enc_f1 op rd imm M h1 hi hM w HM HR HF
  · exact enc_f2 op rd imm M h1 hi hM w HM HR HF
  · exact enc_f3 op rd rs1 imm M h1 h2 hi hM w HM HR HF
  · exact enc_f4 op rs1 rs2 imm M h2 h3 hi hM w HM HR HF
  · exact enc_f5 op rs1 rs2 imm M h2 h3 hi hM w HM HR HF
  · exact enc_f6 op rd rs1 rs2 M h1 h2 h3 hM w HM HR HF
  · exact enc_f7 op rd rs1 imm M h1 h2 hi hM w HM HR HF
  · exact enc_f8 op rd rs1 csr M h1 h2 h4 hM w HM HR HF
  · exact enc_f9 op rd imm csr M h1 h4 hi hM w HM HR HF
theorem enc_no (op rd rs1 rs2 imm csr : Int) (hi : 0 ≤ imm ∧ imm ≤ 4294967295) (hn : op = 0 ∨ rightB op rd rs1 rs2 imm csr = false) (w : World) (hf : FormsIs w) (hm : MatchesIs w) :
    Calls Tryd.prog 22 #[.agg #[.int .i64 op, .int .i64 rd, .int .i64 rs1, .int .i64 rs2, .int .u32 imm, .int .i64 csr]] w fun e w' => e = .returned (.tuple #[.int .u32 0, .int .i64 9]) ∧ Below w.heap.size w w' := by
  have HM : Hid (∀ v, Below w.heap.size w v → Calls Tryd.prog 23 #[.int .i64 op] v fun e w' => e = .returned (.tuple #[.int .u32 (matV op), .int .i64 (matE op)]) ∧ v = w') := Lib.hid (fun v hv => match_t op v (hm.below hv))
  have hbx := bal (Below.refl w.heap.size w) (.cells #[.int .i64 op, .int .i64 rd, .int .i64 rs1, .int .i64 rs2, .int .u32 imm, .int .i64 csr] 24)
  have hbw := bal hbx (.cells #[.int .u32 (matV op)] 22)
  have HBX := Lib.hid hbx
  have HBW := Lib.hid hbw
  clear hbx hbw
  by_cases hop : 1 ≤ op ∧ op < 58
  · have hr : rightB op rd rs1 rs2 imm csr = false := by
      rcases hn with h | h
      · omega
      · exact h
    have hme : matE op = 0 := by simp [matE, hop]
    rw [hme] at HM
    have HR : Hid (∀ v, Below w.heap.size w v → Calls Tryd.prog 44 #[.agg #[.int .i64 op, .int .i64 rd, .int .i64 rs1, .int .i64 rs2, .int .u32 imm, .int .i64 csr]] v fun e w' => e = .returned (.bool false) ∧ Below v.heap.size v w') := Lib.hid (fun v hv => hr ▸ right_c op rd rs1 rs2 imm csr hi v (hf.below hv))
    clear hme hop hn hr hf hm
    generalize matV op = M at *
    go_enter Tryd.func22, Tryd.ntmps22
    go_wp2_with fail
    refine (HM.out _ HBX.out).mono ?_
    rintro e w' ⟨rfl, rfl⟩
    go_wp2_with fail
    refine (HR.out _ HBW.out).mono ?_
    rintro e w1 ⟨rfl, hb1⟩
    have HB1 := Lib.hid (bthen HBW.out hb1)
    clear hb1
    go_wp2
    go_ret2
    exact ⟨rfl, HB1.out⟩
  · have hme : matE op = 9 := by simp [matE, hop]
    rw [hme] at HM
    clear hme hop hn hf hm
    generalize matV op = M at *
    go_enter Tryd.func22, Tryd.ntmps22
    go_wp2_with fail
    refine (HM.out _ HBX.out).mono ?_
    rintro e w' ⟨rfl, rfl⟩
    go_wp2
    go_ret2
    exact ⟨rfl, HBW.out⟩
end Go.Proofs.YtnooikjkjcflbabDoor
