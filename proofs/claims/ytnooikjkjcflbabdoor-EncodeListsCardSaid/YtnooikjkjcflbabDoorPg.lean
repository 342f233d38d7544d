/- Contract of ref04.Encode, form by form: the word is its parts' sum. Conditions: the instruction is right. -/
import Derived.Test.YtnooikjkjcflbabDoorPb
import Derived.Test.YtnooikjkjcflbabDoorDg
import Derived.Test.YtnooikjkjcflbabDoorIr3
import Derived.Test.YtnooikjkjcflbabDoorEb
namespace Go.Proofs.YtnooikjkjcflbabDoor
open Go.RowKit Go.Proofs.YtnooikjkjcflbabDoorW.PrintWords Go.Proofs.YtnooikjkjcflbabDoorW.PrintLast Go.Proofs.YtnooikjkjcflbabDoorW.PrintMore Go.Proofs.YtnooikjkjcflbabDoor.PDecodeWords
set_option linter.unusedVariables false
set_option linter.unusedSimpArgs false

set_option maxHeartbeats 4000000 in
set_option maxRecDepth 100000 in
theorem renc_f2 (op rd imm M : Int) (hrd : 0 ≤ rd ∧ rd ≤ 31) (himm : 0 ≤ imm ∧ imm ≤ 4294967295) (hM : MatOk 2 M) (h0 : ¬ op = 0) (hp : ∃ k : Nat, k < 57 ∧ op - 1 = (k : Int) ∧ patCells[k * 2 + 1]? = some (.int .u32 M)) (w : World)
    (HR : Hid (∀ v, Calls Tryd.prog 13 #[.agg #[.int .i64 op, .int .i64 rd, .int .i64 0, .int .i64 0, .int .u32 imm, .int .i64 0]] v fun e w' => e = .returned (.bool true) ∧ Below v.heap.size v w'))
    (HF : Hid (∀ v, Calls Tryd.prog 46 #[.int .i64 op] v fun e w' => e = .returned (.int .i64 2) ∧ v = w')) :
    Calls Tryd.prog 24 #[.agg #[.int .i64 op, .int .i64 rd, .int .i64 0, .int .i64 0, .int .u32 imm, .int .i64 0]] w fun e w' => e = .returned (.tuple #[.int .u32 (M + rd * 128 + imm / 1048576 % 2 * 2147483648 + imm / 4096 % 256 * 4096 + imm / 2048 % 2 * 1048576 + imm / 2 % 1024 * 2097152), .bool true]) ∧ Below w.heap.size w w' := by
  have k0 := nb h0
  clear h0
  obtain ⟨m0, m1, m2, m3, m4⟩ := hM
  have m2 := m2 (by decide)
  have m3 := m3 (by decide)
  have m4 := m4 (by decide)
  have p1 : ∀ v, Calls Tryd.prog 55 #[.int .u32 imm, .int .i64 20, .int .i64 20] v fun e w' => e = .returned (.int .u32 (imm / 1048576 % 2)) ∧ Drawn0 v w' := fun v => by
    have h := part_c 20 20 (by decide) (by decide) imm himm v
    simpa using h
  have P1 := Lib.hid p1
  clear p1
  have r1 : 0 ≤ imm / 1048576 % 2 ∧ imm / 1048576 % 2 < 2 := by clear m2 m3; omega
  have p2 : ∀ v, Calls Tryd.prog 55 #[.int .u32 imm, .int .i64 19, .int .i64 12] v fun e w' => e = .returned (.int .u32 (imm / 4096 % 256)) ∧ Drawn0 v w' := fun v => by
    have h := part_c 19 12 (by decide) (by decide) imm himm v
    simpa using h
  have P2 := Lib.hid p2
  clear p2
  have r2 : 0 ≤ imm / 4096 % 256 ∧ imm / 4096 % 256 < 256 := by clear m2 m3; omega
  have p3 : ∀ v, Calls Tryd.prog 55 #[.int .u32 imm, .int .i64 11, .int .i64 11] v fun e w' => e = .returned (.int .u32 (imm / 2048 % 2)) ∧ Drawn0 v w' := fun v => by
    have h := part_c 11 11 (by decide) (by decide) imm himm v
    simpa using h
  have P3 := Lib.hid p3
  clear p3
  have r3 : 0 ≤ imm / 2048 % 2 ∧ imm / 2048 % 2 < 2 := by clear m2 m3; omega
  have p4 : ∀ v, Calls Tryd.prog 55 #[.int .u32 imm, .int .i64 10, .int .i64 1] v fun e w' => e = .returned (.int .u32 (imm / 2 % 1024)) ∧ Drawn0 v w' := fun v => by
    have h := part_c 10 1 (by decide) (by decide) imm himm v
    simpa using h
  have P4 := Lib.hid p4
  clear p4
  have r4 : 0 ≤ imm / 2 % 1024 ∧ imm / 2 % 1024 < 1024 := by clear m2 m3; omega
  have crd : rd % 4294967296 = rd := by clear m2 m3; omega
  generalize imm / 1048576 % 2 = x1 at *
  generalize imm / 4096 % 256 = x2 at *
  generalize imm / 2048 % 2 = x3 at *
  generalize imm / 2 % 1024 = x4 at *
  have b0 : 0 ≤ M ∧ M ≤ 4294967295 := by omega
  have q0 : ∀ v, Calls Tryd.prog 54 #[.int .u32 (M), .int .i64 11, .int .i64 7, .int .u32 (rd % 4294967296)] v fun e w' => e = .returned (.int .u32 (M + rd * 128)) ∧ Drawn0 v w' := fun v => by
    rw [crd]
    exact rput_v 11 7 (by decide) (by decide) (M) rd _ b0 (by simp only [Int.reducePow, Nat.reduceSub, Nat.reduceAdd]; omega) (by simp only [Int.reducePow, Nat.reduceSub, Nat.reduceAdd]; omega) (by simp only [Int.reducePow]) (by omega) v
  have Q0 := Lib.hid q0
  clear q0
  have b1 : 0 ≤ M + rd * 128 ∧ M + rd * 128 ≤ 4294967295 := by omega
  have q1 : ∀ v, Calls Tryd.prog 54 #[.int .u32 (M + rd * 128), .int .i64 31, .int .i64 31, .int .u32 x1] v fun e w' => e = .returned (.int .u32 (M + rd * 128 + x1 * 2147483648)) ∧ Drawn0 v w' := fun v => by
    exact rput_v 31 31 (by decide) (by decide) (M + rd * 128) x1 _ b1 (by simp only [Int.reducePow, Nat.reduceSub, Nat.reduceAdd]; omega) (by simp only [Int.reducePow, Nat.reduceSub, Nat.reduceAdd]; omega) (by simp only [Int.reducePow]) (by omega) v
  have Q1 := Lib.hid q1
  clear q1
  have b2 : 0 ≤ M + rd * 128 + x1 * 2147483648 ∧ M + rd * 128 + x1 * 2147483648 ≤ 4294967295 := by omega
  have q2 : ∀ v, Calls Tryd.prog 54 #[.int .u32 (M + rd * 128 + x1 * 2147483648), .int .i64 19, .int .i64 12, .int .u32 x2] v fun e w' => e = .returned (.int .u32 (M + rd * 128 + x1 * 2147483648 + x2 * 4096)) ∧ Drawn0 v w' := fun v => by
    exact rput_v 19 12 (by decide) (by decide) (M + rd * 128 + x1 * 2147483648) x2 _ b2 (by simp only [Int.reducePow, Nat.reduceSub, Nat.reduceAdd]; omega) (by simp only [Int.reducePow, Nat.reduceSub, Nat.reduceAdd]; omega) (by simp only [Int.reducePow]) (by omega) v
  have Q2 := Lib.hid q2
  clear q2
  have b3 : 0 ≤ M + rd * 128 + x1 * 2147483648 + x2 * 4096 ∧ M + rd * 128 + x1 * 2147483648 + x2 * 4096 ≤ 4294967295 := by omega
  have q3 : ∀ v, Calls Tryd.prog 54 #[.int .u32 (M + rd * 128 + x1 * 2147483648 + x2 * 4096), .int .i64 20, .int .i64 20, .int .u32 x3] v fun e w' => e = .returned (.int .u32 (M + rd * 128 + x1 * 2147483648 + x2 * 4096 + x3 * 1048576)) ∧ Drawn0 v w' := fun v => by
    exact rput_v 20 20 (by decide) (by decide) (M + rd * 128 + x1 * 2147483648 + x2 * 4096) x3 _ b3 (by simp only [Int.reducePow, Nat.reduceSub, Nat.reduceAdd]; omega) (by simp only [Int.reducePow, Nat.reduceSub, Nat.reduceAdd]; omega) (by simp only [Int.reducePow]) (by omega) v
  have Q3 := Lib.hid q3
  clear q3
  have b4 : 0 ≤ M + rd * 128 + x1 * 2147483648 + x2 * 4096 + x3 * 1048576 ∧ M + rd * 128 + x1 * 2147483648 + x2 * 4096 + x3 * 1048576 ≤ 4294967295 := by omega
  have q4 : ∀ v, Calls Tryd.prog 54 #[.int .u32 (M + rd * 128 + x1 * 2147483648 + x2 * 4096 + x3 * 1048576), .int .i64 30, .int .i64 21, .int .u32 x4] v fun e w' => e = .returned (.int .u32 (M + rd * 128 + x1 * 2147483648 + x2 * 4096 + x3 * 1048576 + x4 * 2097152)) ∧ Drawn0 v w' := fun v => by
    exact rput_v 30 21 (by decide) (by decide) (M + rd * 128 + x1 * 2147483648 + x2 * 4096 + x3 * 1048576) x4 _ b4 (by simp only [Int.reducePow, Nat.reduceSub, Nat.reduceAdd]; omega) (by simp only [Int.reducePow, Nat.reduceSub, Nat.reduceAdd]; omega) (by simp only [Int.reducePow]) (by omega) v
  have Q4 := Lib.hid q4
  clear q4
  clear crd
  clear b0 b1 b2 b3 b4
  clear r1
  clear r2
  clear r3
  clear r4
  clear m0 m1 m2 m3 m4
  clear hrd
  clear himm
  go_enter Tryd.func24, Tryd.ntmps24
  go_wp2_with fail
  refine (HR.out _).mono ?_
  rintro e w1 ⟨rfl, hb1⟩
  have hc := (bcf hb1).1
  have HB1 := Lib.hid (bthen (bal (Below.refl w.heap.size w) _) hb1)
  have q0 := (hc w.heap.size 0 (by simp)).trans (show _ = some (.int .i64 op) by simp [go_sem])
  have z1 : w.heap.size < w1.heap.size := by have := hb1.size; simp at this; omega
  clear hb1
  go_wp2_with fail
  refine (HF.out _).mono ?_
  rintro e w' ⟨rfl, rfl⟩
  go_wp2_with fail
  obtain ⟨k, hn, hk, hpc⟩ := hp
  obtain rfl : op = (k : Int) + 1 := by omega
  have f5 : IntKind.i64.wrap (k : Int) = k := IntWalk.i64_in _ (by omega)
  have f6 : wrap64 (k : Int) = k := by unfold wrap64; omega
  have f2 : (0 : Int) ≤ (k : Int) := by omega
  have f3 : (k : Int) < 57 := by omega
  have z2 : ¬ w.heap.size = w1.heap.size := by omega
  clear hk k0
  go_cut [5] (fun c wx => c = .int .u32 M ∧ Below w.heap.size w wx ∧ ∀ o, wx.cell? ⟨w.heap.size, o, none⟩ = w1.cell? ⟨w.heap.size, o, none⟩)
  case first =>
    go_region_with (first | (go_at_call 26; refine (rpat_c _).mono ?_; rintro e w' ⟨rfl, rfl⟩))
    all_goals
      go_wp2_with fail
      go_meet
      refine ⟨rfl, by repeat (first | (with_reducible exact HB1.out) | (with_reducible refine bal ?_ _) | (with_reducible refine Below.drew ?_) | (with_reducible refine bdn ?_ _)), ?_⟩
      exact fun o => (bcf (bal (Below.refl w1.heap.size w1) _)).1 _ o z1
  case rest =>
    obtain ⟨rfl, hbc, hcc⟩ := hcut
    have c1 := ((hcc 1).trans (hc w.heap.size 1 (by simp))).trans (show _ = some (.int .i64 rd) by simp [go_sem])
    have c4 := ((hcc 4).trans (hc w.heap.size 4 (by simp))).trans (show _ = some (.int .u32 imm) by simp [go_sem])
    have HBC := Lib.hid hbc
    clear hbc hcc hc f5 f6 f2 f3 z1 z2 hn hpc q0
    go_wp2_with (first | (go_at_call 55; (with_reducible refine Calls.mono (P1.out _) ?_); rintro e w' ⟨rfl, ⟨nd, rfl⟩⟩) | (go_at_call 55; (with_reducible refine Calls.mono (P2.out _) ?_); rintro e w' ⟨rfl, ⟨nd, rfl⟩⟩) | (go_at_call 55; (with_reducible refine Calls.mono (P3.out _) ?_); rintro e w' ⟨rfl, ⟨nd, rfl⟩⟩) | (go_at_call 55; (with_reducible refine Calls.mono (P4.out _) ?_); rintro e w' ⟨rfl, ⟨nd, rfl⟩⟩) | (go_at_call 54; (with_reducible refine Calls.mono (Q0.out _) ?_); rintro e w' ⟨rfl, ⟨nd, rfl⟩⟩) | (go_at_call 54; (with_reducible refine Calls.mono (Q1.out _) ?_); rintro e w' ⟨rfl, ⟨nd, rfl⟩⟩) | (go_at_call 54; (with_reducible refine Calls.mono (Q2.out _) ?_); rintro e w' ⟨rfl, ⟨nd, rfl⟩⟩) | (go_at_call 54; (with_reducible refine Calls.mono (Q3.out _) ?_); rintro e w' ⟨rfl, ⟨nd, rfl⟩⟩) | (go_at_call 54; (with_reducible refine Calls.mono (Q4.out _) ?_); rintro e w' ⟨rfl, ⟨nd, rfl⟩⟩) | fail)
    go_ret2
    exact ⟨rfl, by repeat (first | (with_reducible exact HBC.out) | (with_reducible refine Below.drew ?_) | (with_reducible refine bdn ?_ _))⟩
set_option maxHeartbeats 4000000 in
set_option maxRecDepth 100000 in
theorem renc_f4 (op rs1 rs2 imm M : Int) (hrs1 : 0 ≤ rs1 ∧ rs1 ≤ 31) (hrs2 : 0 ≤ rs2 ∧ rs2 ≤ 31) (himm : 0 ≤ imm ∧ imm ≤ 4294967295) (hM : MatOk 4 M) (h0 : ¬ op = 0) (hp : ∃ k : Nat, k < 57 ∧ op - 1 = (k : Int) ∧ patCells[k * 2 + 1]? = some (.int .u32 M)) (w : World)
    (HR : Hid (∀ v, Calls Tryd.prog 13 #[.agg #[.int .i64 op, .int .i64 0, .int .i64 rs1, .int .i64 rs2, .int .u32 imm, .int .i64 0]] v fun e w' => e = .returned (.bool true) ∧ Below v.heap.size v w'))
    (HF : Hid (∀ v, Calls Tryd.prog 46 #[.int .i64 op] v fun e w' => e = .returned (.int .i64 4) ∧ v = w')) :
    Calls Tryd.prog 24 #[.agg #[.int .i64 op, .int .i64 0, .int .i64 rs1, .int .i64 rs2, .int .u32 imm, .int .i64 0]] w fun e w' => e = .returned (.tuple #[.int .u32 (M + rs1 * 32768 + rs2 * 1048576 + imm / 4096 % 2 * 2147483648 + imm / 2048 % 2 * 128 + imm / 32 % 64 * 33554432 + imm / 2 % 16 * 256), .bool true]) ∧ Below w.heap.size w w' := by
  have k0 := nb h0
  clear h0
  obtain ⟨m0, m1, m2, m3, m4⟩ := hM
  have m2 := m2 (by decide)
  have m3 := m3 (by decide)
  clear m4
  have p2 : ∀ v, Calls Tryd.prog 55 #[.int .u32 imm, .int .i64 12, .int .i64 12] v fun e w' => e = .returned (.int .u32 (imm / 4096 % 2)) ∧ Drawn0 v w' := fun v => by
    have h := part_c 12 12 (by decide) (by decide) imm himm v
    simpa using h
  have P2 := Lib.hid p2
  clear p2
  have r2 : 0 ≤ imm / 4096 % 2 ∧ imm / 4096 % 2 < 2 := by clear m2 m3; omega
  have p3 : ∀ v, Calls Tryd.prog 55 #[.int .u32 imm, .int .i64 11, .int .i64 11] v fun e w' => e = .returned (.int .u32 (imm / 2048 % 2)) ∧ Drawn0 v w' := fun v => by
    have h := part_c 11 11 (by decide) (by decide) imm himm v
    simpa using h
  have P3 := Lib.hid p3
  clear p3
  have r3 : 0 ≤ imm / 2048 % 2 ∧ imm / 2048 % 2 < 2 := by clear m2 m3; omega
  have p4 : ∀ v, Calls Tryd.prog 55 #[.int .u32 imm, .int .i64 10, .int .i64 5] v fun e w' => e = .returned (.int .u32 (imm / 32 % 64)) ∧ Drawn0 v w' := fun v => by
    have h := part_c 10 5 (by decide) (by decide) imm himm v
    simpa using h
  have P4 := Lib.hid p4
  clear p4
  have r4 : 0 ≤ imm / 32 % 64 ∧ imm / 32 % 64 < 64 := by clear m2 m3; omega
  have p5 : ∀ v, Calls Tryd.prog 55 #[.int .u32 imm, .int .i64 4, .int .i64 1] v fun e w' => e = .returned (.int .u32 (imm / 2 % 16)) ∧ Drawn0 v w' := fun v => by
    have h := part_c 4 1 (by decide) (by decide) imm himm v
    simpa using h
  have P5 := Lib.hid p5
  clear p5
  have r5 : 0 ≤ imm / 2 % 16 ∧ imm / 2 % 16 < 16 := by clear m2 m3; omega
  have crs1 : rs1 % 4294967296 = rs1 := by clear m2 m3; omega
  have crs2 : rs2 % 4294967296 = rs2 := by clear m2 m3; omega
  generalize imm / 4096 % 2 = x2 at *
  generalize imm / 2048 % 2 = x3 at *
  generalize imm / 32 % 64 = x4 at *
  generalize imm / 2 % 16 = x5 at *
  have b0 : 0 ≤ M ∧ M ≤ 4294967295 := by omega
  have q0 : ∀ v, Calls Tryd.prog 54 #[.int .u32 (M), .int .i64 19, .int .i64 15, .int .u32 (rs1 % 4294967296)] v fun e w' => e = .returned (.int .u32 (M + rs1 * 32768)) ∧ Drawn0 v w' := fun v => by
    rw [crs1]
    exact rput_v 19 15 (by decide) (by decide) (M) rs1 _ b0 (by simp only [Int.reducePow, Nat.reduceSub, Nat.reduceAdd]; omega) (by simp only [Int.reducePow, Nat.reduceSub, Nat.reduceAdd]; omega) (by simp only [Int.reducePow]) (by omega) v
  have Q0 := Lib.hid q0
  clear q0
  have b1 : 0 ≤ M + rs1 * 32768 ∧ M + rs1 * 32768 ≤ 4294967295 := by omega
  have q1 : ∀ v, Calls Tryd.prog 54 #[.int .u32 (M + rs1 * 32768), .int .i64 24, .int .i64 20, .int .u32 (rs2 % 4294967296)] v fun e w' => e = .returned (.int .u32 (M + rs1 * 32768 + rs2 * 1048576)) ∧ Drawn0 v w' := fun v => by
    rw [crs2]
    exact rput_v 24 20 (by decide) (by decide) (M + rs1 * 32768) rs2 _ b1 (by simp only [Int.reducePow, Nat.reduceSub, Nat.reduceAdd]; omega) (by simp only [Int.reducePow, Nat.reduceSub, Nat.reduceAdd]; omega) (by simp only [Int.reducePow]) (by omega) v
  have Q1 := Lib.hid q1
  clear q1
  have b2 : 0 ≤ M + rs1 * 32768 + rs2 * 1048576 ∧ M + rs1 * 32768 + rs2 * 1048576 ≤ 4294967295 := by omega
  have q2 : ∀ v, Calls Tryd.prog 54 #[.int .u32 (M + rs1 * 32768 + rs2 * 1048576), .int .i64 31, .int .i64 31, .int .u32 x2] v fun e w' => e = .returned (.int .u32 (M + rs1 * 32768 + rs2 * 1048576 + x2 * 2147483648)) ∧ Drawn0 v w' := fun v => by
    exact rput_v 31 31 (by decide) (by decide) (M + rs1 * 32768 + rs2 * 1048576) x2 _ b2 (by simp only [Int.reducePow, Nat.reduceSub, Nat.reduceAdd]; omega) (by simp only [Int.reducePow, Nat.reduceSub, Nat.reduceAdd]; omega) (by simp only [Int.reducePow]) (by omega) v
  have Q2 := Lib.hid q2
  clear q2
  have b3 : 0 ≤ M + rs1 * 32768 + rs2 * 1048576 + x2 * 2147483648 ∧ M + rs1 * 32768 + rs2 * 1048576 + x2 * 2147483648 ≤ 4294967295 := by omega
  have q3 : ∀ v, Calls Tryd.prog 54 #[.int .u32 (M + rs1 * 32768 + rs2 * 1048576 + x2 * 2147483648), .int .i64 7, .int .i64 7, .int .u32 x3] v fun e w' => e = .returned (.int .u32 (M + rs1 * 32768 + rs2 * 1048576 + x2 * 2147483648 + x3 * 128)) ∧ Drawn0 v w' := fun v => by
    exact rput_v 7 7 (by decide) (by decide) (M + rs1 * 32768 + rs2 * 1048576 + x2 * 2147483648) x3 _ b3 (by simp only [Int.reducePow, Nat.reduceSub, Nat.reduceAdd]; omega) (by simp only [Int.reducePow, Nat.reduceSub, Nat.reduceAdd]; omega) (by simp only [Int.reducePow]) (by omega) v
  have Q3 := Lib.hid q3
  clear q3
  have b4 : 0 ≤ M + rs1 * 32768 + rs2 * 1048576 + x2 * 2147483648 + x3 * 128 ∧ M + rs1 * 32768 + rs2 * 1048576 + x2 * 2147483648 + x3 * 128 ≤ 4294967295 := by omega
  have q4 : ∀ v, Calls Tryd.prog 54 #[.int .u32 (M + rs1 * 32768 + rs2 * 1048576 + x2 * 2147483648 + x3 * 128), .int .i64 30, .int .i64 25, .int .u32 x4] v fun e w' => e = .returned (.int .u32 (M + rs1 * 32768 + rs2 * 1048576 + x2 * 2147483648 + x3 * 128 + x4 * 33554432)) ∧ Drawn0 v w' := fun v => by
    exact rput_v 30 25 (by decide) (by decide) (M + rs1 * 32768 + rs2 * 1048576 + x2 * 2147483648 + x3 * 128) x4 _ b4 (by simp only [Int.reducePow, Nat.reduceSub, Nat.reduceAdd]; omega) (by simp only [Int.reducePow, Nat.reduceSub, Nat.reduceAdd]; omega) (by simp only [Int.reducePow]) (by omega) v
  have Q4 := Lib.hid q4
  clear q4
  have b5 : 0 ≤ M + rs1 * 32768 + rs2 * 1048576 + x2 * 2147483648 + x3 * 128 + x4 * 33554432 ∧ M + rs1 * 32768 + rs2 * 1048576 + x2 * 2147483648 + x3 * 128 + x4 * 33554432 ≤ 4294967295 := by omega
  have q5 : ∀ v, Calls Tryd.prog 54 #[.int .u32 (M + rs1 * 32768 + rs2 * 1048576 + x2 * 2147483648 + x3 * 128 + x4 * 33554432), .int .i64 11, .int .i64 8, .int .u32 x5] v fun e w' => e = .returned (.int .u32 (M + rs1 * 32768 + rs2 * 1048576 + x2 * 2147483648 + x3 * 128 + x4 * 33554432 + x5 * 256)) ∧ Drawn0 v w' := fun v => by
    exact rput_v 11 8 (by decide) (by decide) (M + rs1 * 32768 + rs2 * 1048576 + x2 * 2147483648 + x3 * 128 + x4 * 33554432) x5 _ b5 (by simp only [Int.reducePow, Nat.reduceSub, Nat.reduceAdd]; omega) (by simp only [Int.reducePow, Nat.reduceSub, Nat.reduceAdd]; omega) (by simp only [Int.reducePow]) (by omega) v
  have Q5 := Lib.hid q5
  clear q5
  clear crs1
  clear crs2
  clear b0 b1 b2 b3 b4 b5
  clear r2
  clear r3
  clear r4
  clear r5
  clear m0 m1 m2 m3
  clear hrs1
  clear hrs2
  clear himm
  go_enter Tryd.func24, Tryd.ntmps24
  go_wp2_with fail
  refine (HR.out _).mono ?_
  rintro e w1 ⟨rfl, hb1⟩
  have hc := (bcf hb1).1
  have HB1 := Lib.hid (bthen (bal (Below.refl w.heap.size w) _) hb1)
  have q0 := (hc w.heap.size 0 (by simp)).trans (show _ = some (.int .i64 op) by simp [go_sem])
  have z1 : w.heap.size < w1.heap.size := by have := hb1.size; simp at this; omega
  clear hb1
  go_wp2_with fail
  refine (HF.out _).mono ?_
  rintro e w' ⟨rfl, rfl⟩
  go_wp2_with fail
  obtain ⟨k, hn, hk, hpc⟩ := hp
  obtain rfl : op = (k : Int) + 1 := by omega
  have f5 : IntKind.i64.wrap (k : Int) = k := IntWalk.i64_in _ (by omega)
  have f6 : wrap64 (k : Int) = k := by unfold wrap64; omega
  have f2 : (0 : Int) ≤ (k : Int) := by omega
  have f3 : (k : Int) < 57 := by omega
  have z2 : ¬ w.heap.size = w1.heap.size := by omega
  clear hk k0
  go_cut [5] (fun c wx => c = .int .u32 M ∧ Below w.heap.size w wx ∧ ∀ o, wx.cell? ⟨w.heap.size, o, none⟩ = w1.cell? ⟨w.heap.size, o, none⟩)
  case first =>
    go_region_with (first | (go_at_call 26; refine (rpat_c _).mono ?_; rintro e w' ⟨rfl, rfl⟩))
    all_goals
      go_wp2_with fail
      go_meet
      refine ⟨rfl, by repeat (first | (with_reducible exact HB1.out) | (with_reducible refine bal ?_ _) | (with_reducible refine Below.drew ?_) | (with_reducible refine bdn ?_ _)), ?_⟩
      exact fun o => (bcf (bal (Below.refl w1.heap.size w1) _)).1 _ o z1
  case rest =>
    obtain ⟨rfl, hbc, hcc⟩ := hcut
    have c2 := ((hcc 2).trans (hc w.heap.size 2 (by simp))).trans (show _ = some (.int .i64 rs1) by simp [go_sem])
    have c3 := ((hcc 3).trans (hc w.heap.size 3 (by simp))).trans (show _ = some (.int .i64 rs2) by simp [go_sem])
    have c4 := ((hcc 4).trans (hc w.heap.size 4 (by simp))).trans (show _ = some (.int .u32 imm) by simp [go_sem])
    have HBC := Lib.hid hbc
    clear hbc hcc hc f5 f6 f2 f3 z1 z2 hn hpc q0
    go_wp2_with (first | (go_at_call 55; (with_reducible refine Calls.mono (P2.out _) ?_); rintro e w' ⟨rfl, ⟨nd, rfl⟩⟩) | (go_at_call 55; (with_reducible refine Calls.mono (P3.out _) ?_); rintro e w' ⟨rfl, ⟨nd, rfl⟩⟩) | (go_at_call 55; (with_reducible refine Calls.mono (P4.out _) ?_); rintro e w' ⟨rfl, ⟨nd, rfl⟩⟩) | (go_at_call 55; (with_reducible refine Calls.mono (P5.out _) ?_); rintro e w' ⟨rfl, ⟨nd, rfl⟩⟩) | (go_at_call 54; (with_reducible refine Calls.mono (Q0.out _) ?_); rintro e w' ⟨rfl, ⟨nd, rfl⟩⟩) | (go_at_call 54; (with_reducible refine Calls.mono (Q1.out _) ?_); rintro e w' ⟨rfl, ⟨nd, rfl⟩⟩) | (go_at_call 54; (with_reducible refine Calls.mono (Q2.out _) ?_); rintro e w' ⟨rfl, ⟨nd, rfl⟩⟩) | (go_at_call 54; (with_reducible refine Calls.mono (Q3.out _) ?_); rintro e w' ⟨rfl, ⟨nd, rfl⟩⟩) | (go_at_call 54; (with_reducible refine Calls.mono (Q4.out _) ?_); rintro e w' ⟨rfl, ⟨nd, rfl⟩⟩) | (go_at_call 54; (with_reducible refine Calls.mono (Q5.out _) ?_); rintro e w' ⟨rfl, ⟨nd, rfl⟩⟩) | fail)
    go_ret2
    exact ⟨rfl, by repeat (first | (with_reducible exact HBC.out) | (with_reducible refine Below.drew ?_) | (with_reducible refine bdn ?_ _))⟩
end Go.Proofs.YtnooikjkjcflbabDoor
