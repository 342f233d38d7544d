/- Contract of ref04.Encode: the word, or that there is none. Conditions: numbers are of their kinds. -/
import Derived.Test.YtnooikjkjcflbabDoorPc
import Derived.Test.YtnooikjkjcflbabDoorPf
import Derived.Test.YtnooikjkjcflbabDoorPg
import Derived.Test.YtnooikjkjcflbabDoorEc
import Derived.Test.YtnooikjkjcflbabDoorIb
namespace Go.Proofs.YtnooikjkjcflbabDoor
open Go.RowKit Go.Proofs.YtnooikjkjcflbabDoorW.PrintWords Go.Proofs.YtnooikjkjcflbabDoorW.PrintLast Go.Proofs.YtnooikjkjcflbabDoorW.PrintMore Go.Proofs.YtnooikjkjcflbabDoor.PDecodeWords
set_option linter.unusedVariables false
set_option linter.unusedSimpArgs false

theorem pat_mat : ∀ k, k < 57 → patX k = matchesAt (k + 1) := by decide +kernel
theorem pat_at (op : Int) (h : 1 ≤ op ∧ op < 58) : ∃ k : Nat, k < 57 ∧ op - 1 = (k : Int) ∧ patCells[k * 2 + 1]? = some (.int .u32 (matV op)) := by
  obtain ⟨k, hk⟩ := Int.eq_ofNat_of_zero_le (show 0 ≤ op - 1 by omega)
  refine ⟨k, by omega, hk, ?_⟩
  rw [(pat_cells_dec k (by omega)).2, pat_mat k (by omega)]
  unfold matV
  rw [if_pos h, show op.toNat = k + 1 by omega]
set_option maxHeartbeats 4000000 in
theorem renc_ok (op rd rs1 rs2 imm csr : Int) (hi : 0 ≤ imm ∧ imm ≤ 4294967295) (ho : ¬ op = 0) (hr : rightB op rd rs1 rs2 imm csr = true) (w : World) :
    Calls Tryd.prog 24 #[.agg #[.int .i64 op, .int .i64 rd, .int .i64 rs1, .int .i64 rs2, .int .u32 imm, .int .i64 csr]] w fun e w' => e = .returned (.tuple #[.int .u32 (encV op rd rs1 rs2 imm csr), .bool true]) ∧ Below w.heap.size w w' := by
  obtain ⟨h0, h1, h2, h3, h4, k1, k2, k3, k4, k5, k6⟩ := right_facts hr
  have hop : 1 ≤ op ∧ op < 58 := by have := has_t h0; omega
  have hM := mat_ok op hop
  have hp := pat_at op hop
  have HR : Hid (∀ v, Calls Tryd.prog 13 #[.agg #[.int .i64 op, .int .i64 rd, .int .i64 rs1, .int .i64 rs2, .int .u32 imm, .int .i64 csr]] v fun e w' => e = .returned (.bool true) ∧ Below v.heap.size v w') := Lib.hid (fun v => by
    have h := rright_c op rd rs1 rs2 imm csr hi v
    rw [← right_same op rd rs1 rs2 imm csr hi, hr] at h
    exact h)
  have HF : Hid (∀ v, Calls Tryd.prog 46 #[.int .i64 op] v fun e w' => e = .returned (.int .i64 (formV op)) ∧ v = w') := Lib.hid (fun v => by
    have h := rform_c op v
    rw [← form_same h0] at h
    exact h)
  have hfr := eform_rng op
  unfold encV
  clear hr h0 hop
  generalize formV op = f at *
  generalize matV op = M at *
  rcases (by omega : f = 0 ∨ f = 1 ∨ f = 2 ∨ f = 3 ∨ f = 4 ∨ f = 5 ∨ f = 6 ∨ f = 7 ∨ f = 8 ∨ f = 9) with rfl | rfl | rfl | rfl | rfl | rfl | rfl | rfl | rfl | rfl
  all_goals
    simp [oRd, oRs1, oRs2, oImm, oCsr] at k1 k2 k3 k4 k5
    try subst k1
    try subst k2
    try subst k3
    try subst k4
    try subst k5
    simp only [encS, Int.reduceEq, if_true, if_false]
  · exact renc_f0 op M hM ho hp w HR HF
  · exact renc_f1 op rd imm M h1 hi hM ho hp w HR HF
  · exact renc_f2 op rd imm M h1 hi hM ho hp w HR HF
  · exact renc_f3 op rd rs1 imm M h1 h2 hi hM ho hp w HR HF
  · exact renc_f4 op rs1 rs2 imm M h2 h3 hi hM ho hp w HR HF
  · exact renc_f5 op rs1 rs2 imm M h2 h3 hi hM ho hp w HR HF
  · exact renc_f6 op rd rs1 rs2 M h1 h2 h3 hM ho hp w HR HF
  · exact renc_f7 op rd rs1 imm M h1 h2 ⟨hi.1, by simpa [numB] using k6⟩ hM ho hp w HR HF
  · exact renc_f8 op rd rs1 csr M h1 h2 h4 hM ho hp w HR HF
  · exact renc_f9 op rd imm csr M h1 h4 ⟨hi.1, by simpa [numB] using k6⟩ hM ho hp w HR HF
theorem renc_no (op rd rs1 rs2 imm csr : Int) (hi : 0 ≤ imm ∧ imm ≤ 4294967295) (hn : op = 0 ∨ rightB op rd rs1 rs2 imm csr = false) (w : World) :
    Calls Tryd.prog 24 #[.agg #[.int .i64 op, .int .i64 rd, .int .i64 rs1, .int .i64 rs2, .int .u32 imm, .int .i64 csr]] w fun e w' => e = .returned (.tuple #[.int .u32 0, .bool false]) ∧ Below w.heap.size w w' := by
  by_cases h0 : op = 0
  · subst h0
    clear hn
    go_enter Tryd.func24, Tryd.ntmps24
    go_wp2
    go_ret2
    refine ⟨rfl, ?_⟩
    repeat (first | (with_reducible exact Below.refl _ _) | (with_reducible refine bal ?_ _) | (with_reducible refine Below.drew ?_) | (with_reducible refine bdn ?_ _))
  · have hr : rightB op rd rs1 rs2 imm csr = false := hn.resolve_left h0
    have HR : Hid (∀ v, Calls Tryd.prog 13 #[.agg #[.int .i64 op, .int .i64 rd, .int .i64 rs1, .int .i64 rs2, .int .u32 imm, .int .i64 csr]] v fun e w' => e = .returned (.bool false) ∧ Below v.heap.size v w') := Lib.hid (fun v => by
      have h := rright_c op rd rs1 rs2 imm csr hi v
      rw [← right_same op rd rs1 rs2 imm csr hi, hr] at h
      exact h)
    have k0 := nb h0
    clear hr hn hi h0
    go_enter Tryd.func24, Tryd.ntmps24
    go_wp2_with fail
    refine (HR.out _).mono ?_
    rintro e w1 ⟨rfl, hb1⟩
    have HB1 := Lib.hid (bthen (bal (Below.refl w.heap.size w) _) hb1)
    clear hb1
    go_wp2
    go_ret2
    exact ⟨rfl, HB1.out⟩
end Go.Proofs.YtnooikjkjcflbabDoor
