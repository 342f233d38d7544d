/- The walk of the law EncodeWords: it returns true. Conditions: numbers are of their kinds; the listed variables hold what the program's text lays in them. -/
import Derived.Test.YtnooikjkjcflbabDoorPd
import Derived.Test.YtnooikjkjcflbabDoorEd
namespace Go.Proofs.YtnooikjkjcflbabDoor
open Go.RowKit Go.Proofs.YtnooikjkjcflbabDoorW.PrintWords Go.Proofs.YtnooikjkjcflbabDoorW.PrintLast Go.Proofs.YtnooikjkjcflbabDoorW.PrintMore Go.Proofs.YtnooikjkjcflbabDoor.PDecodeWords
set_option linter.unusedVariables false
set_option linter.unusedSimpArgs false

set_option maxHeartbeats 8000000 in
set_option maxRecDepth 100000 in
theorem ewords_in (k : Nat) (hn : k < 57) (rd rs1 rs2 imm csr X E M : Int) (ok : Bool) (hE : (E = 0 ∧ ok = true) ∨ (E = 9 ∧ ok = false)) (hpc : patCells[k * 2 + 1]? = some (.int .u32 M)) (W : World) (hf : FormsIs W) (hm : MatchesIs W)
    (HE : Hid (∀ v, FormsIs v → MatchesIs v → Calls Tryd.prog 22 #[.agg #[.int .i64 ((k : Int) + 1), .int .i64 rd, .int .i64 rs1, .int .i64 rs2, .int .u32 imm, .int .i64 csr]] v fun e w' => e = .returned (.tuple #[.int .u32 X, .int .i64 E]) ∧ Below v.heap.size v w'))
    (HM : Hid (∀ v, MatchesIs v → Calls Tryd.prog 23 #[.int .i64 ((k : Int) + 1)] v fun e w' => e = .returned (.tuple #[.int .u32 M, .int .i64 0]) ∧ v = w'))
    (HX : Hid (∀ v, Calls Tryd.prog 24 #[.agg #[.int .i64 ((k : Int) + 1), .int .i64 rd, .int .i64 rs1, .int .i64 rs2, .int .u32 imm, .int .i64 csr]] v fun e w' => e = .returned (.tuple #[.int .u32 X, .bool ok]) ∧ Below v.heap.size v w')) :
    Calls Tryd.prog 5 #[.agg #[.int .i64 ((k : Int) + 1), .int .i64 rd, .int .i64 rs1, .int .i64 rs2, .int .u32 imm, .int .i64 csr]] W fun e w' => e = .returned (.bool true) ∧ Below W.heap.size W w' := by
  have HF := Lib.hid hf
  have HMt := Lib.hid hm
  have HAW := Lib.hid (fun (v : World) (h1 : FormsIs v) (h2 : MatchesIs v) => awake4_c v h1 h2)
  have f5 : IntKind.i64.wrap (k : Int) = k := IntWalk.i64_in _ (by omega)
  have f6 : wrap64 (k : Int) = k := by unfold wrap64; omega
  have f2 : (0 : Int) ≤ (k : Int) := by omega
  have f3 : (k : Int) < 57 := by omega
  have g1 : ¬ ((k : Int) + 1 ≤ 0) := by omega
  have g2 : ¬ (58 ≤ (k : Int) + 1) := by omega
  have hbw := bal (Below.refl W.heap.size W) (.cells #[.int .i64 ((k : Int) + 1), .int .i64 rd, .int .i64 rs1, .int .i64 rs2, .int .u32 imm, .int .i64 csr] 24)
  have HBW := Lib.hid hbw
  clear hf hm hbw
  go_enter Tryd.func5, Tryd.ntmps5
  go_wp2_with fail
  refine (HE.out _ (HF.out.below HBW.out) (HMt.out.below HBW.out)).mono ?_
  rintro e w1 ⟨rfl, hb1⟩
  have q1 := ((bcf hb1).1 W.heap.size 0 (by simp)).trans (show _ = some (.int .i64 ((k : Int) + 1)) by simp [go_sem])
  have q2 := ((bcf hb1).1 W.heap.size 1 (by simp)).trans (show _ = some (.int .i64 rd) by simp [go_sem])
  have q3 := ((bcf hb1).1 W.heap.size 2 (by simp)).trans (show _ = some (.int .i64 rs1) by simp [go_sem])
  have q4 := ((bcf hb1).1 W.heap.size 3 (by simp)).trans (show _ = some (.int .i64 rs2) by simp [go_sem])
  have q5 := ((bcf hb1).1 W.heap.size 4 (by simp)).trans (show _ = some (.int .u32 imm) by simp [go_sem])
  have q6 := ((bcf hb1).1 W.heap.size 5 (by simp)).trans (show _ = some (.int .i64 csr) by simp [go_sem])
  have HB1 := Lib.hid (bthen HBW.out hb1)
  have z1 : W.heap.size < w1.heap.size := by have := hb1.size; simp at this; omega
  clear hb1
  go_wp2_with fail
  refine (HM.out _ (HMt.out.below HB1.out)).mono ?_
  rintro e w' ⟨rfl, rfl⟩
  go_wp2_with fail
  refine (HX.out _).mono ?_
  rintro e w2 ⟨rfl, hb2⟩
  have p1 := ((bcf hb2).1 W.heap.size 0 z1).trans q1
  have HB2 := Lib.hid (bthen HB1.out hb2)
  have z2 : W.heap.size < w2.heap.size := by have := hb2.size; omega
  have z3 : ¬ W.heap.size = w2.heap.size := by omega
  clear hb2 q1 q2 q3 q4 q5 q6 z1
  go_wp2_with fail
  go_cut [62] (fun c wx => c = .bool false ∧ Below W.heap.size W wx)
  case first =>
    go_region_with (first | (go_at_call 26; refine (rpat_c _).mono ?_; rintro e w' ⟨rfl, rfl⟩))
    all_goals
      go_wp2_with fail
      go_meet
      exact ⟨rfl, by repeat (first | (with_reducible exact HB2.out) | (with_reducible refine bal ?_ _) | (with_reducible refine Below.drew ?_) | (with_reducible refine bdn ?_ _))⟩
  case rest =>
    obtain ⟨rfl, hbc⟩ := hcut
    have HBC := Lib.hid hbc
    clear hbc f5 f6 f2 f3 g1 g2 p1 z2 z3
    rcases hE with ⟨rfl, rfl⟩ | ⟨rfl, rfl⟩
    all_goals
      go_wp2_with (go_at_call 25; refine (HAW.out _ (HF.out.below HBC.out) (HMt.out.below HBC.out)).mono ?_; rintro e w3 ⟨rfl, hb3⟩)
      go_ret
      exact ⟨rfl, bthen HBC.out hb3⟩
set_option maxHeartbeats 4000000 in
theorem ewords_out (op rd rs1 rs2 imm csr : Int) (ho : op ≤ 0 ∨ 58 ≤ op) (W : World) (hf : FormsIs W) (hm : MatchesIs W)
    (HE : Hid (∀ v, FormsIs v → MatchesIs v → Calls Tryd.prog 22 #[.agg #[.int .i64 op, .int .i64 rd, .int .i64 rs1, .int .i64 rs2, .int .u32 imm, .int .i64 csr]] v fun e w' => e = .returned (.tuple #[.int .u32 0, .int .i64 9]) ∧ Below v.heap.size v w'))
    (HM : Hid (∀ v, MatchesIs v → Calls Tryd.prog 23 #[.int .i64 op] v fun e w' => e = .returned (.tuple #[.int .u32 0, .int .i64 9]) ∧ v = w'))
    (HX : Hid (∀ v, Calls Tryd.prog 24 #[.agg #[.int .i64 op, .int .i64 rd, .int .i64 rs1, .int .i64 rs2, .int .u32 imm, .int .i64 csr]] v fun e w' => e = .returned (.tuple #[.int .u32 0, .bool false]) ∧ Below v.heap.size v w')) :
    Calls Tryd.prog 5 #[.agg #[.int .i64 op, .int .i64 rd, .int .i64 rs1, .int .i64 rs2, .int .u32 imm, .int .i64 csr]] W fun e w' => e = .returned (.bool true) ∧ Below W.heap.size W w' := by
  have HF := Lib.hid hf
  have HMt := Lib.hid hm
  have HAW := Lib.hid (fun (v : World) (h1 : FormsIs v) (h2 : MatchesIs v) => awake4_c v h1 h2)
  have hbw := bal (Below.refl W.heap.size W) (.cells #[.int .i64 op, .int .i64 rd, .int .i64 rs1, .int .i64 rs2, .int .u32 imm, .int .i64 csr] 24)
  have HBW := Lib.hid hbw
  clear hf hm hbw
  rcases ho with g1 | g1
  all_goals
    have g2 := g1
    try (have g3 : ¬ op ≤ 0 := by omega)
    go_enter Tryd.func5, Tryd.ntmps5
    go_wp2_with fail
    refine (HE.out _ (HF.out.below HBW.out) (HMt.out.below HBW.out)).mono ?_
    rintro e w1 ⟨rfl, hb1⟩
    have q1 := ((bcf hb1).1 W.heap.size 0 (by simp)).trans (show _ = some (.int .i64 op) by simp [go_sem])
    have q2 := ((bcf hb1).1 W.heap.size 1 (by simp)).trans (show _ = some (.int .i64 rd) by simp [go_sem])
    have q3 := ((bcf hb1).1 W.heap.size 2 (by simp)).trans (show _ = some (.int .i64 rs1) by simp [go_sem])
    have q4 := ((bcf hb1).1 W.heap.size 3 (by simp)).trans (show _ = some (.int .i64 rs2) by simp [go_sem])
    have q5 := ((bcf hb1).1 W.heap.size 4 (by simp)).trans (show _ = some (.int .u32 imm) by simp [go_sem])
    have q6 := ((bcf hb1).1 W.heap.size 5 (by simp)).trans (show _ = some (.int .i64 csr) by simp [go_sem])
    have HB1 := Lib.hid (bthen HBW.out hb1)
    have z1 : W.heap.size < w1.heap.size := by have := hb1.size; simp at this; omega
    clear hb1
    go_wp2_with fail
    refine (HM.out _ (HMt.out.below HB1.out)).mono ?_
    rintro e w' ⟨rfl, rfl⟩
    go_wp2_with fail
    refine (HX.out _).mono ?_
    rintro e w2 ⟨rfl, hb2⟩
    have p1 := ((bcf hb2).1 W.heap.size 0 z1).trans q1
    have HB2 := Lib.hid (bthen HB1.out hb2)
    clear hb2 q1 q2 q3 q4 q5 q6 z1
    go_wp2_with (go_at_call 25; refine (HAW.out _ (HF.out.below HB2.out) (HMt.out.below HB2.out)).mono ?_; rintro e w3 ⟨rfl, hb3⟩)
    go_ret
    exact ⟨rfl, bthen HB2.out hb3⟩
theorem ewords_w (op rd rs1 rs2 imm csr : Int) (hi : 0 ≤ imm ∧ imm ≤ 4294967295) (W : World) (hf : FormsIs W) (hm : MatchesIs W) :
    Calls Tryd.prog 5 #[.agg #[.int .i64 op, .int .i64 rd, .int .i64 rs1, .int .i64 rs2, .int .u32 imm, .int .i64 csr]] W fun e w' => e = .returned (.bool true) ∧ Below W.heap.size W w' := by
  by_cases hop : 1 ≤ op ∧ op < 58
  · obtain ⟨k, hn, hk, hpc⟩ := pat_at op hop
    have hme : matE op = 0 := by simp [matE, hop]
    have HM : Hid (∀ v, MatchesIs v → Calls Tryd.prog 23 #[.int .i64 op] v fun e w' => e = .returned (.tuple #[.int .u32 (matV op), .int .i64 0]) ∧ v = w') := Lib.hid (fun v hv => by have h := match_t op v hv; rw [hme] at h; exact h)
    generalize matV op = M at *
    have h0 : ¬ op = 0 := by omega
    obtain rfl : op = (k : Int) + 1 := by omega
    rcases Bool.eq_false_or_eq_true (rightB ((k : Int) + 1) rd rs1 rs2 imm csr) with hr | hr
    · exact ewords_in k hn rd rs1 rs2 imm csr _ 0 M true (.inl ⟨rfl, rfl⟩) hpc W hf hm (Lib.hid fun v h1 h2 => enc_ok _ rd rs1 rs2 imm csr hi h0 hr v h1 h2) HM (Lib.hid fun v => renc_ok _ rd rs1 rs2 imm csr hi h0 hr v)
    · exact ewords_in k hn rd rs1 rs2 imm csr 0 9 M false (.inr ⟨rfl, rfl⟩) hpc W hf hm (Lib.hid fun v h1 h2 => enc_no _ rd rs1 rs2 imm csr hi (.inr hr) v h1 h2) HM (Lib.hid fun v => renc_no _ rd rs1 rs2 imm csr hi (.inr hr) v)
  · have hn : op = 0 ∨ rightB op rd rs1 rs2 imm csr = false := by
      by_cases h0 : op = 0
      · exact .inl h0
      · right
        cases hr : rightB op rd rs1 rs2 imm csr with
        | false => rfl
        | true => have := has_t (right_facts hr).1; omega
    have hmv : matV op = 0 := by simp [matV, hop]
    have hme : matE op = 9 := by simp [matE, hop]
    exact ewords_out op rd rs1 rs2 imm csr (by omega) W hf hm (Lib.hid fun v h1 h2 => enc_no op rd rs1 rs2 imm csr hi hn v h1 h2) (Lib.hid fun v hv => by have h := match_t op v hv; rw [hme, hmv] at h; exact h) (Lib.hid fun v => renc_no op rd rs1 rs2 imm csr hi hn v)
end Go.Proofs.YtnooikjkjcflbabDoor
