/- Contract of encode.Encode, form by form: the word is its parts' sum. Conditions: the instruction is right; the listed variables hold what the program's text lays in them. -/
import Derived.Test.YtnooikjkjcflbabDoorEa
import Derived.Test.YtnooikjkjcflbabDoorIr2
namespace Go.Proofs.YtnooikjkjcflbabDoor
open Go.RowKit
set_option linter.unusedVariables false
set_option linter.unusedSimpArgs false

theorem emhf (fn : Fn) (first cap : Array Value) (w : World) : (Instr.makeFunc fn first cap).run Tryd.prog w = .ok (.func fn first cap) w := rfl
def encS (f M rd rs1 rs2 imm csr : Int) : Int :=
  if f = 0 then M
  else if f = 1 then M + rd * 128 + imm / 4096 % 1048576 * 4096
  else if f = 2 then M + rd * 128 + imm / 1048576 % 2 * 2147483648 + imm / 4096 % 256 * 4096 + imm / 2048 % 2 * 1048576 + imm / 2 % 1024 * 2097152
  else if f = 3 then M + rd * 128 + rs1 * 32768 + imm % 4096 * 1048576
  else if f = 4 then M + rs1 * 32768 + rs2 * 1048576 + imm / 4096 % 2 * 2147483648 + imm / 2048 % 2 * 128 + imm / 32 % 64 * 33554432 + imm / 2 % 16 * 256
  else if f = 5 then M + rs1 * 32768 + rs2 * 1048576 + imm / 32 % 128 * 33554432 + imm % 32 * 128
  else if f = 6 then M + rd * 128 + rs1 * 32768 + rs2 * 1048576
  else if f = 7 then M + rd * 128 + rs1 * 32768 + imm % 32 * 1048576
  else if f = 8 then M + rd * 128 + rs1 * 32768 + csr * 1048576
  else M + rd * 128 + csr * 1048576 + imm % 32 * 32768
def matV (op : Int) : Int := if 1 ≤ op ∧ op < 58 then matchesAt op.toNat else 0
def matE (op : Int) : Int := if 1 ≤ op ∧ op < 58 then 0 else 9
theorem match_t (op : Int) (w : World) (hf : MatchesIs w) : Calls Tryd.prog 23 #[.int .i64 op] w fun e w' => e = .returned (.tuple #[.int .u32 (matV op), .int .i64 (matE op)]) ∧ w = w' := by
  unfold matV matE
  by_cases h : 1 ≤ op ∧ op < 58
  · rw [if_pos h, if_pos h]
    obtain ⟨h0, h1⟩ := h
    have hc := matches_cell hf op.toNat (by omega)
    clear hf
    go_enter Tryd.func23, Tryd.ntmps23
    go_wp2
    go_ret2
    exact ⟨rfl, rfl⟩
  · rw [if_neg h, if_neg h]
    clear hf
    rcases (by omega : op ≤ 0 ∨ 58 ≤ op) with h2 | h2
    all_goals
      go_enter Tryd.func23, Tryd.ntmps23
      go_wp2
      go_ret2
      exact ⟨rfl, rfl⟩
/-- The state of the call behind a put: the instruction's cells, the word so far. -/
structure EncAt (w0 : World) (op rd rs1 rs2 imm csr V : Int) (w : World) : Prop where
  bel : Below w0.heap.size w0 w
  c0 : w.cell? ⟨w0.heap.size, 0, none⟩ = some (.int .i64 op)
  c1 : w.cell? ⟨w0.heap.size, 1, none⟩ = some (.int .i64 rd)
  c2 : w.cell? ⟨w0.heap.size, 2, none⟩ = some (.int .i64 rs1)
  c3 : w.cell? ⟨w0.heap.size, 3, none⟩ = some (.int .i64 rs2)
  c4 : w.cell? ⟨w0.heap.size, 4, none⟩ = some (.int .u32 imm)
  c5 : w.cell? ⟨w0.heap.size, 5, none⟩ = some (.int .i64 csr)
  cw : w.cell? ⟨w0.heap.size + 1, 0, none⟩ = some (.int .u32 V)
  fz : w.frozen? ⟨w0.heap.size + 1, 0, none⟩ = false
  sz : w0.heap.size + 2 ≤ w.heap.size
theorem put_s (w0 : World) (op rd rs1 rs2 imm csr V V' : Int) (w : World) (hs : EncAt w0 op rd rs1 rs2 imm csr V w) (from' many at' : Int) (p n : Nat) (hp : PutAt from' many at' p n) (x : Int) (hx : 0 ≤ x ∧ x ≤ 4294967295) (hv : bits .or .u32 V (x / 2 ^ from'.toNat % 2 ^ n * 2 ^ p) = V') :
    Calls Tryd.prog 52 #[.int .u32 x, .int .u64 from', .int .u64 many, .int .u64 at', .pointer (some ⟨w0.heap.size + 1, 0, none⟩)] w fun e w' => e = .returned (.tuple #[]) ∧ EncAt w0 op rd rs1 rs2 imm csr V' w' := by
  refine (put_c from' many at' p n hp x hx _ V w hs.cw hs.fz).mono ?_
  rintro e w' ⟨rfl, rfl⟩
  rw [hv]
  obtain ⟨h0, h1, h2, h3, h4, h5, h6, h7, h8, h9⟩ := hs
  exact ⟨rfl, bset h0 (by simp) _, by simp [go_sem, h1], by simp [go_sem, h2], by simp [go_sem, h3], by simp [go_sem, h4], by simp [go_sem, h5], by simp [go_sem, h6], by simp [go_sem, h7], by simp [go_sem, h8], by simpa using h9⟩
theorem or0 (V : Int) (hV : 0 ≤ V ∧ V ≤ 4294967295) (a b c : Nat) : bits .or .u32 V (0 / 2 ^ a % 2 ^ b * 2 ^ c) = V := by
  have := or_mid V 0 0 0 hV (by decide) (by decide) (by simp)
  simpa using this
theorem orm (V x : Int) (a n p : Nat) (hV : 0 ≤ V ∧ V ≤ 4294967295) (hpn : p + n ≤ 32) (h : V % 2 ^ (p + n) < 2 ^ p) : bits .or .u32 V (x / 2 ^ a % 2 ^ n * 2 ^ p) = V + x / 2 ^ a % 2 ^ n * 2 ^ p :=
  or_mid V _ p n hV ⟨Int.emod_nonneg _ (by have : (0 : Int) < 2 ^ n := Int.pow_pos (by decide); omega), Int.emod_lt_of_pos _ (Int.pow_pos (by decide))⟩ hpn h
def MatOk (f M : Int) : Prop := 0 ≤ M ∧ M ≤ 4294967295 ∧ (¬ f = 0 → M % 4096 < 128 ∧ M % 1048576 < 32768 ∧ M % 33554432 < 1048576) ∧ (¬ f = 0 ∧ ¬ f = 6 ∧ ¬ f = 7 → M < 32768) ∧ (f = 1 ∨ f = 2 → M < 128)
set_option maxHeartbeats 8000000 in
set_option maxRecDepth 100000 in
theorem enc_f0 (op M : Int) (hM : MatOk 0 M) (w : World)
    (HM : Hid (∀ v, Below w.heap.size w v → Calls Tryd.prog 23 #[.int .i64 op] v fun e w' => e = .returned (.tuple #[.int .u32 M, .int .i64 0]) ∧ v = w'))
    (HR : Hid (∀ v, Below w.heap.size w v → Calls Tryd.prog 44 #[.agg #[.int .i64 op, .int .i64 0, .int .i64 0, .int .i64 0, .int .u32 0, .int .i64 0]] v fun e w' => e = .returned (.bool true) ∧ Below v.heap.size v w'))
    (HF : Hid (∀ v, Below w.heap.size w v → Calls Tryd.prog 53 #[.int .i64 op] v fun e w' => e = .returned (.tuple #[.int .i64 0, .int .i64 0]) ∧ v = w')) :
    Calls Tryd.prog 22 #[.agg #[.int .i64 op, .int .i64 0, .int .i64 0, .int .i64 0, .int .u32 0, .int .i64 0]] w fun e w' => e = .returned (.tuple #[.int .u32 (M), .int .i64 0]) ∧ Below w.heap.size w w' := by
  obtain ⟨m0, m1, m2, m3, m4⟩ := hM
  clear m2 m3 m4
  have v0 : bits .or .u32 (M) ((0 : Int) / 2 ^ (0 : Int).toNat % 2 ^ 5 * 2 ^ 7) = M := or0 _ ⟨by omega, by omega⟩ _ _ _
  have V0 := Lib.hid v0
  clear v0
  have v1 : bits .or .u32 (M) ((0 : Int) / 2 ^ (0 : Int).toNat % 2 ^ 5 * 2 ^ 15) = M := or0 _ ⟨by omega, by omega⟩ _ _ _
  have V1 := Lib.hid v1
  clear v1
  have v2 : bits .or .u32 (M) ((0 : Int) / 2 ^ (0 : Int).toNat % 2 ^ 5 * 2 ^ 20) = M := or0 _ ⟨by omega, by omega⟩ _ _ _
  have V2 := Lib.hid v2
  clear v2
  have v3 : bits .or .u32 (M) ((0 : Int) / 2 ^ (0 : Int).toNat % 2 ^ 12 * 2 ^ 20) = M := or0 _ ⟨by omega, by omega⟩ _ _ _
  have V3 := Lib.hid v3
  clear v3
  have hbw := bal (bal (Below.refl w.heap.size w) (.cells #[.int .i64 op, .int .i64 0, .int .i64 0, .int .i64 0, .int .u32 0, .int .i64 0] 24)) (.cells #[.int .u32 M] 22)
  have hbx := bal (Below.refl w.heap.size w) (.cells #[.int .i64 op, .int .i64 0, .int .i64 0, .int .i64 0, .int .u32 0, .int .i64 0] 24)
  have HBW := Lib.hid hbw
  have HBX := Lib.hid hbx
  have hm := emhf
  clear hbw hbx m0 m1
  go_enter Tryd.func22, Tryd.ntmps22
  go_wp2_with fail
  refine (HM.out _ HBX.out).mono ?_
  rintro e w' ⟨rfl, rfl⟩
  go_wp2_with fail
  refine (HR.out _ HBW.out).mono ?_
  rintro e w1 ⟨rfl, hb1⟩
  have hs : EncAt w op 0 0 0 0 0 M w1 := by
    have hc := (bcf hb1).1
    have hf := (bcf hb1).2
    have hz := hb1.size
    simp only [World.size_alloc] at hz
    exact ⟨bthen HBW.out hb1, by rw [hc _ _ (by simp; omega)]; simp [go_sem], by rw [hc _ _ (by simp; omega)]; simp [go_sem], by rw [hc _ _ (by simp; omega)]; simp [go_sem], by rw [hc _ _ (by simp; omega)]; simp [go_sem], by rw [hc _ _ (by simp; omega)]; simp [go_sem], by rw [hc _ _ (by simp; omega)]; simp [go_sem], by rw [hc _ _ (by simp)]; simp [go_sem], by rw [hf _ _ (by simp)]; simp [go_sem], by omega⟩
  clear hb1
  have HS := Lib.hid hs
  obtain ⟨hb, c0, c1, c2, c3, c4, c5, cw, fz, sz⟩ := hs
  clear hb
  go_wp2_with fail
  refine (HF.out _ HS.out.bel).mono ?_
  rintro e w' ⟨rfl, rfl⟩
  go_wp2_with fail
  refine (put_s w op 0 0 0 0 0 (M) (M) _ HS.out 0 5 7 7 5 (Or.inl ⟨rfl, rfl, rfl, rfl, rfl⟩) 0 (by omega) V0.out).mono ?_
  clear c0 c1 c2 c3 c4 c5 cw fz sz HS
  rintro e w2 ⟨rfl, hs⟩
  have HS := Lib.hid hs
  obtain ⟨hb, c0, c1, c2, c3, c4, c5, cw, fz, sz⟩ := hs
  clear hb
  go_wp2_with fail
  refine (put_s w op 0 0 0 0 0 (M) (M) _ HS.out 0 5 15 15 5 (Or.inr (Or.inl ⟨rfl, rfl, rfl, rfl, rfl⟩)) 0 (by omega) V1.out).mono ?_
  clear c0 c1 c2 c3 c4 c5 cw fz sz HS
  rintro e w3 ⟨rfl, hs⟩
  have HS := Lib.hid hs
  obtain ⟨hb, c0, c1, c2, c3, c4, c5, cw, fz, sz⟩ := hs
  clear hb
  go_wp2_with fail
  refine (put_s w op 0 0 0 0 0 (M) (M) _ HS.out 0 5 20 20 5 (Or.inr (Or.inr (Or.inl ⟨rfl, rfl, rfl, rfl, rfl⟩))) 0 (by omega) V2.out).mono ?_
  clear c0 c1 c2 c3 c4 c5 cw fz sz HS
  rintro e w4 ⟨rfl, hs⟩
  have HS := Lib.hid hs
  obtain ⟨hb, c0, c1, c2, c3, c4, c5, cw, fz, sz⟩ := hs
  clear hb
  go_wp2_with fail
  refine (put_s w op 0 0 0 0 0 (M) (M) _ HS.out 0 12 20 20 12 (Or.inr (Or.inr (Or.inr (Or.inl ⟨rfl, rfl, rfl, rfl, rfl⟩)))) 0 (by omega) V3.out).mono ?_
  clear c0 c1 c2 c3 c4 c5 cw fz sz HS
  rintro e w5 ⟨rfl, hs⟩
  have HS := Lib.hid hs
  obtain ⟨hb, c0, c1, c2, c3, c4, c5, cw, fz, sz⟩ := hs
  clear hb
  go_wp2
  go_ret2
  exact ⟨rfl, HS.out.bel⟩
set_option maxHeartbeats 8000000 in
set_option maxRecDepth 100000 in
theorem enc_f1 (op rd imm M : Int) (hrd : 0 ≤ rd ∧ rd ≤ 31) (himm : 0 ≤ imm ∧ imm ≤ 4294967295) (hM : MatOk 1 M) (w : World)
    (HM : Hid (∀ v, Below w.heap.size w v → Calls Tryd.prog 23 #[.int .i64 op] v fun e w' => e = .returned (.tuple #[.int .u32 M, .int .i64 0]) ∧ v = w'))
    (HR : Hid (∀ v, Below w.heap.size w v → Calls Tryd.prog 44 #[.agg #[.int .i64 op, .int .i64 rd, .int .i64 0, .int .i64 0, .int .u32 imm, .int .i64 0]] v fun e w' => e = .returned (.bool true) ∧ Below v.heap.size v w'))
    (HF : Hid (∀ v, Below w.heap.size w v → Calls Tryd.prog 53 #[.int .i64 op] v fun e w' => e = .returned (.tuple #[.int .i64 1, .int .i64 0]) ∧ v = w')) :
    Calls Tryd.prog 22 #[.agg #[.int .i64 op, .int .i64 rd, .int .i64 0, .int .i64 0, .int .u32 imm, .int .i64 0]] w fun e w' => e = .returned (.tuple #[.int .u32 (M + rd * 128 + imm / 4096 % 1048576 * 4096), .int .i64 0]) ∧ Below w.heap.size w w' := by
  obtain ⟨m0, m1, m2, m3, m4⟩ := hM
  obtain ⟨m5, m6, m7⟩ := m2 (by decide)
  have m8 := m3 (by decide)
  have m9 := m4 (by decide)
  clear m2 m3 m4
  have r0 : 0 ≤ imm / 4096 % 1048576 ∧ imm / 4096 % 1048576 < 1048576 := by omega
  have v0 : bits .or .u32 (M) (rd / 2 ^ (0 : Int).toNat % 2 ^ 5 * 2 ^ 7) = M + rd * 128 := by
    rw [orm (M) rd _ 5 7 ⟨by generalize imm / 4096 % 1048576 = y0 at *; omega, by generalize imm / 4096 % 1048576 = y0 at *; omega⟩ (by decide) (by simp only [Nat.reduceAdd, Int.reducePow]; generalize imm / 4096 % 1048576 = y0 at *; omega)]
    simp only [Int.reduceToNat, Int.reducePow]
    try omega
  have V0 := Lib.hid v0
  clear v0
  have v1 : bits .or .u32 (M + rd * 128) ((0 : Int) / 2 ^ (0 : Int).toNat % 2 ^ 5 * 2 ^ 15) = M + rd * 128 := or0 _ ⟨by omega, by omega⟩ _ _ _
  have V1 := Lib.hid v1
  clear v1
  have v2 : bits .or .u32 (M + rd * 128) ((0 : Int) / 2 ^ (0 : Int).toNat % 2 ^ 5 * 2 ^ 20) = M + rd * 128 := or0 _ ⟨by omega, by omega⟩ _ _ _
  have V2 := Lib.hid v2
  clear v2
  have v3 : bits .or .u32 (M + rd * 128) ((0 : Int) / 2 ^ (0 : Int).toNat % 2 ^ 12 * 2 ^ 20) = M + rd * 128 := or0 _ ⟨by omega, by omega⟩ _ _ _
  have V3 := Lib.hid v3
  clear v3
  have v4 : bits .or .u32 (M + rd * 128) (imm / 2 ^ (12 : Int).toNat % 2 ^ 20 * 2 ^ 12) = M + rd * 128 + imm / 4096 % 1048576 * 4096 := by
    rw [orm (M + rd * 128) imm _ 20 12 ⟨by generalize imm / 4096 % 1048576 = y0 at *; omega, by generalize imm / 4096 % 1048576 = y0 at *; omega⟩ (by decide) (by simp only [Nat.reduceAdd, Int.reducePow]; generalize imm / 4096 % 1048576 = y0 at *; omega)]
    simp only [Int.reduceToNat, Int.reducePow]
    try omega
  have V4 := Lib.hid v4
  clear v4
  have hbw := bal (bal (Below.refl w.heap.size w) (.cells #[.int .i64 op, .int .i64 rd, .int .i64 0, .int .i64 0, .int .u32 imm, .int .i64 0] 24)) (.cells #[.int .u32 M] 22)
  have hbx := bal (Below.refl w.heap.size w) (.cells #[.int .i64 op, .int .i64 rd, .int .i64 0, .int .i64 0, .int .u32 imm, .int .i64 0] 24)
  have HBW := Lib.hid hbw
  have HBX := Lib.hid hbx
  have hm := emhf
  clear hbw hbx m0 m1 m5 m6 m7 m8 m9 r0
  go_enter Tryd.func22, Tryd.ntmps22
  go_wp2_with fail
  refine (HM.out _ HBX.out).mono ?_
  rintro e w' ⟨rfl, rfl⟩
  go_wp2_with fail
  refine (HR.out _ HBW.out).mono ?_
  rintro e w1 ⟨rfl, hb1⟩
  have hs : EncAt w op rd 0 0 imm 0 M w1 := by
    have hc := (bcf hb1).1
    have hf := (bcf hb1).2
    have hz := hb1.size
    simp only [World.size_alloc] at hz
    exact ⟨bthen HBW.out hb1, by rw [hc _ _ (by simp; omega)]; simp [go_sem], by rw [hc _ _ (by simp; omega)]; simp [go_sem], by rw [hc _ _ (by simp; omega)]; simp [go_sem], by rw [hc _ _ (by simp; omega)]; simp [go_sem], by rw [hc _ _ (by simp; omega)]; simp [go_sem], by rw [hc _ _ (by simp; omega)]; simp [go_sem], by rw [hc _ _ (by simp)]; simp [go_sem], by rw [hf _ _ (by simp)]; simp [go_sem], by omega⟩
  clear hb1
  have HS := Lib.hid hs
  obtain ⟨hb, c0, c1, c2, c3, c4, c5, cw, fz, sz⟩ := hs
  clear hb
  go_wp2_with fail
  refine (HF.out _ HS.out.bel).mono ?_
  rintro e w' ⟨rfl, rfl⟩
  go_wp2_with fail
  refine (put_s w op rd 0 0 imm 0 (M) (M + rd * 128) _ HS.out 0 5 7 7 5 (Or.inl ⟨rfl, rfl, rfl, rfl, rfl⟩) rd (by omega) V0.out).mono ?_
  clear c0 c1 c2 c3 c4 c5 cw fz sz HS
  rintro e w2 ⟨rfl, hs⟩
  have HS := Lib.hid hs
  obtain ⟨hb, c0, c1, c2, c3, c4, c5, cw, fz, sz⟩ := hs
  clear hb
  go_wp2_with fail
  refine (put_s w op rd 0 0 imm 0 (M + rd * 128) (M + rd * 128) _ HS.out 0 5 15 15 5 (Or.inr (Or.inl ⟨rfl, rfl, rfl, rfl, rfl⟩)) 0 (by omega) V1.out).mono ?_
  clear c0 c1 c2 c3 c4 c5 cw fz sz HS
  rintro e w3 ⟨rfl, hs⟩
  have HS := Lib.hid hs
  obtain ⟨hb, c0, c1, c2, c3, c4, c5, cw, fz, sz⟩ := hs
  clear hb
  go_wp2_with fail
  refine (put_s w op rd 0 0 imm 0 (M + rd * 128) (M + rd * 128) _ HS.out 0 5 20 20 5 (Or.inr (Or.inr (Or.inl ⟨rfl, rfl, rfl, rfl, rfl⟩))) 0 (by omega) V2.out).mono ?_
  clear c0 c1 c2 c3 c4 c5 cw fz sz HS
  rintro e w4 ⟨rfl, hs⟩
  have HS := Lib.hid hs
  obtain ⟨hb, c0, c1, c2, c3, c4, c5, cw, fz, sz⟩ := hs
  clear hb
  go_wp2_with fail
  refine (put_s w op rd 0 0 imm 0 (M + rd * 128) (M + rd * 128) _ HS.out 0 12 20 20 12 (Or.inr (Or.inr (Or.inr (Or.inl ⟨rfl, rfl, rfl, rfl, rfl⟩)))) 0 (by omega) V3.out).mono ?_
  clear c0 c1 c2 c3 c4 c5 cw fz sz HS
  rintro e w5 ⟨rfl, hs⟩
  have HS := Lib.hid hs
  obtain ⟨hb, c0, c1, c2, c3, c4, c5, cw, fz, sz⟩ := hs
  clear hb
  go_wp2_with fail
  refine (put_s w op rd 0 0 imm 0 (M + rd * 128) (M + rd * 128 + imm / 4096 % 1048576 * 4096) _ HS.out 12 20 12 12 20 (Or.inr (Or.inr (Or.inr (Or.inr (Or.inl ⟨rfl, rfl, rfl, rfl, rfl⟩))))) imm (by omega) V4.out).mono ?_
  clear c0 c1 c2 c3 c4 c5 cw fz sz HS
  rintro e w6 ⟨rfl, hs⟩
  have HS := Lib.hid hs
  obtain ⟨hb, c0, c1, c2, c3, c4, c5, cw, fz, sz⟩ := hs
  clear hb
  go_wp2
  go_ret2
  exact ⟨rfl, HS.out.bel⟩
set_option maxHeartbeats 8000000 in
set_option maxRecDepth 100000 in
theorem enc_f2 (op rd imm M : Int) (hrd : 0 ≤ rd ∧ rd ≤ 31) (himm : 0 ≤ imm ∧ imm ≤ 4294967295) (hM : MatOk 2 M) (w : World)
    (HM : Hid (∀ v, Below w.heap.size w v → Calls Tryd.prog 23 #[.int .i64 op] v fun e w' => e = .returned (.tuple #[.int .u32 M, .int .i64 0]) ∧ v = w'))
    (HR : Hid (∀ v, Below w.heap.size w v → Calls Tryd.prog 44 #[.agg #[.int .i64 op, .int .i64 rd, .int .i64 0, .int .i64 0, .int .u32 imm, .int .i64 0]] v fun e w' => e = .returned (.bool true) ∧ Below v.heap.size v w'))
    (HF : Hid (∀ v, Below w.heap.size w v → Calls Tryd.prog 53 #[.int .i64 op] v fun e w' => e = .returned (.tuple #[.int .i64 2, .int .i64 0]) ∧ v = w')) :
    Calls Tryd.prog 22 #[.agg #[.int .i64 op, .int .i64 rd, .int .i64 0, .int .i64 0, .int .u32 imm, .int .i64 0]] w fun e w' => e = .returned (.tuple #[.int .u32 (M + rd * 128 + imm / 1048576 % 2 * 2147483648 + imm / 4096 % 256 * 4096 + imm / 2048 % 2 * 1048576 + imm / 2 % 1024 * 2097152), .int .i64 0]) ∧ Below w.heap.size w w' := by
  obtain ⟨m0, m1, m2, m3, m4⟩ := hM
  obtain ⟨m5, m6, m7⟩ := m2 (by decide)
  have m8 := m3 (by decide)
  have m9 := m4 (by decide)
  clear m2 m3 m4
  have r0 : 0 ≤ imm / 1048576 % 2 ∧ imm / 1048576 % 2 < 2 := by omega
  have r1 : 0 ≤ imm / 4096 % 256 ∧ imm / 4096 % 256 < 256 := by omega
  have r2 : 0 ≤ imm / 2048 % 2 ∧ imm / 2048 % 2 < 2 := by omega
  have r3 : 0 ≤ imm / 2 % 1024 ∧ imm / 2 % 1024 < 1024 := by omega
  have v0 : bits .or .u32 (M) (rd / 2 ^ (0 : Int).toNat % 2 ^ 5 * 2 ^ 7) = M + rd * 128 := by
    rw [orm (M) rd _ 5 7 ⟨by generalize imm / 1048576 % 2 = y0 at *; generalize imm / 4096 % 256 = y1 at *; generalize imm / 2048 % 2 = y2 at *; generalize imm / 2 % 1024 = y3 at *; omega, by generalize imm / 1048576 % 2 = y0 at *; generalize imm / 4096 % 256 = y1 at *; generalize imm / 2048 % 2 = y2 at *; generalize imm / 2 % 1024 = y3 at *; omega⟩ (by decide) (by simp only [Nat.reduceAdd, Int.reducePow]; generalize imm / 1048576 % 2 = y0 at *; generalize imm / 4096 % 256 = y1 at *; generalize imm / 2048 % 2 = y2 at *; generalize imm / 2 % 1024 = y3 at *; omega)]
    simp only [Int.reduceToNat, Int.reducePow]
    try omega
  have V0 := Lib.hid v0
  clear v0
  have v1 : bits .or .u32 (M + rd * 128) ((0 : Int) / 2 ^ (0 : Int).toNat % 2 ^ 5 * 2 ^ 15) = M + rd * 128 := or0 _ ⟨by omega, by omega⟩ _ _ _
  have V1 := Lib.hid v1
  clear v1
  have v2 : bits .or .u32 (M + rd * 128) ((0 : Int) / 2 ^ (0 : Int).toNat % 2 ^ 5 * 2 ^ 20) = M + rd * 128 := or0 _ ⟨by omega, by omega⟩ _ _ _
  have V2 := Lib.hid v2
  clear v2
  have v3 : bits .or .u32 (M + rd * 128) ((0 : Int) / 2 ^ (0 : Int).toNat % 2 ^ 12 * 2 ^ 20) = M + rd * 128 := or0 _ ⟨by omega, by omega⟩ _ _ _
  have V3 := Lib.hid v3
  clear v3
  have v4 : bits .or .u32 (M + rd * 128) (imm / 2 ^ (20 : Int).toNat % 2 ^ 1 * 2 ^ 31) = M + rd * 128 + imm / 1048576 % 2 * 2147483648 := by
    rw [orm (M + rd * 128) imm _ 1 31 ⟨by generalize imm / 1048576 % 2 = y0 at *; generalize imm / 4096 % 256 = y1 at *; generalize imm / 2048 % 2 = y2 at *; generalize imm / 2 % 1024 = y3 at *; omega, by generalize imm / 1048576 % 2 = y0 at *; generalize imm / 4096 % 256 = y1 at *; generalize imm / 2048 % 2 = y2 at *; generalize imm / 2 % 1024 = y3 at *; omega⟩ (by decide) (by simp only [Nat.reduceAdd, Int.reducePow]; generalize imm / 1048576 % 2 = y0 at *; generalize imm / 4096 % 256 = y1 at *; generalize imm / 2048 % 2 = y2 at *; generalize imm / 2 % 1024 = y3 at *; omega)]
    simp only [Int.reduceToNat, Int.reducePow]
    try omega
  have V4 := Lib.hid v4
  clear v4
  have v5 : bits .or .u32 (M + rd * 128 + imm / 1048576 % 2 * 2147483648) (imm / 2 ^ (12 : Int).toNat % 2 ^ 8 * 2 ^ 12) = M + rd * 128 + imm / 1048576 % 2 * 2147483648 + imm / 4096 % 256 * 4096 := by
    rw [orm (M + rd * 128 + imm / 1048576 % 2 * 2147483648) imm _ 8 12 ⟨by generalize imm / 1048576 % 2 = y0 at *; generalize imm / 4096 % 256 = y1 at *; generalize imm / 2048 % 2 = y2 at *; generalize imm / 2 % 1024 = y3 at *; omega, by generalize imm / 1048576 % 2 = y0 at *; generalize imm / 4096 % 256 = y1 at *; generalize imm / 2048 % 2 = y2 at *; generalize imm / 2 % 1024 = y3 at *; omega⟩ (by decide) (by simp only [Nat.reduceAdd, Int.reducePow]; generalize imm / 1048576 % 2 = y0 at *; generalize imm / 4096 % 256 = y1 at *; generalize imm / 2048 % 2 = y2 at *; generalize imm / 2 % 1024 = y3 at *; omega)]
    simp only [Int.reduceToNat, Int.reducePow]
    try omega
  have V5 := Lib.hid v5
  clear v5
  have v6 : bits .or .u32 (M + rd * 128 + imm / 1048576 % 2 * 2147483648 + imm / 4096 % 256 * 4096) (imm / 2 ^ (11 : Int).toNat % 2 ^ 1 * 2 ^ 20) = M + rd * 128 + imm / 1048576 % 2 * 2147483648 + imm / 4096 % 256 * 4096 + imm / 2048 % 2 * 1048576 := by
    rw [orm (M + rd * 128 + imm / 1048576 % 2 * 2147483648 + imm / 4096 % 256 * 4096) imm _ 1 20 ⟨by generalize imm / 1048576 % 2 = y0 at *; generalize imm / 4096 % 256 = y1 at *; generalize imm / 2048 % 2 = y2 at *; generalize imm / 2 % 1024 = y3 at *; omega, by generalize imm / 1048576 % 2 = y0 at *; generalize imm / 4096 % 256 = y1 at *; generalize imm / 2048 % 2 = y2 at *; generalize imm / 2 % 1024 = y3 at *; omega⟩ (by decide) (by simp only [Nat.reduceAdd, Int.reducePow]; generalize imm / 1048576 % 2 = y0 at *; generalize imm / 4096 % 256 = y1 at *; generalize imm / 2048 % 2 = y2 at *; generalize imm / 2 % 1024 = y3 at *; omega)]
    simp only [Int.reduceToNat, Int.reducePow]
    try omega
  have V6 := Lib.hid v6
  clear v6
  have v7 : bits .or .u32 (M + rd * 128 + imm / 1048576 % 2 * 2147483648 + imm / 4096 % 256 * 4096 + imm / 2048 % 2 * 1048576) (imm / 2 ^ (1 : Int).toNat % 2 ^ 10 * 2 ^ 21) = M + rd * 128 + imm / 1048576 % 2 * 2147483648 + imm / 4096 % 256 * 4096 + imm / 2048 % 2 * 1048576 + imm / 2 % 1024 * 2097152 := by
    rw [orm (M + rd * 128 + imm / 1048576 % 2 * 2147483648 + imm / 4096 % 256 * 4096 + imm / 2048 % 2 * 1048576) imm _ 10 21 ⟨by generalize imm / 1048576 % 2 = y0 at *; generalize imm / 4096 % 256 = y1 at *; generalize imm / 2048 % 2 = y2 at *; generalize imm / 2 % 1024 = y3 at *; omega, by generalize imm / 1048576 % 2 = y0 at *; generalize imm / 4096 % 256 = y1 at *; generalize imm / 2048 % 2 = y2 at *; generalize imm / 2 % 1024 = y3 at *; omega⟩ (by decide) (by simp only [Nat.reduceAdd, Int.reducePow]; generalize imm / 1048576 % 2 = y0 at *; generalize imm / 4096 % 256 = y1 at *; generalize imm / 2048 % 2 = y2 at *; generalize imm / 2 % 1024 = y3 at *; omega)]
    simp only [Int.reduceToNat, Int.reducePow]
    try omega
  have V7 := Lib.hid v7
  clear v7
  have hbw := bal (bal (Below.refl w.heap.size w) (.cells #[.int .i64 op, .int .i64 rd, .int .i64 0, .int .i64 0, .int .u32 imm, .int .i64 0] 24)) (.cells #[.int .u32 M] 22)
  have hbx := bal (Below.refl w.heap.size w) (.cells #[.int .i64 op, .int .i64 rd, .int .i64 0, .int .i64 0, .int .u32 imm, .int .i64 0] 24)
  have HBW := Lib.hid hbw
  have HBX := Lib.hid hbx
  have hm := emhf
  clear hbw hbx m0 m1 m5 m6 m7 m8 m9 r0 r1 r2 r3
  go_enter Tryd.func22, Tryd.ntmps22
  go_wp2_with fail
  refine (HM.out _ HBX.out).mono ?_
  rintro e w' ⟨rfl, rfl⟩
  go_wp2_with fail
  refine (HR.out _ HBW.out).mono ?_
  rintro e w1 ⟨rfl, hb1⟩
  have hs : EncAt w op rd 0 0 imm 0 M w1 := by
    have hc := (bcf hb1).1
    have hf := (bcf hb1).2
    have hz := hb1.size
    simp only [World.size_alloc] at hz
    exact ⟨bthen HBW.out hb1, by rw [hc _ _ (by simp; omega)]; simp [go_sem], by rw [hc _ _ (by simp; omega)]; simp [go_sem], by rw [hc _ _ (by simp; omega)]; simp [go_sem], by rw [hc _ _ (by simp; omega)]; simp [go_sem], by rw [hc _ _ (by simp; omega)]; simp [go_sem], by rw [hc _ _ (by simp; omega)]; simp [go_sem], by rw [hc _ _ (by simp)]; simp [go_sem], by rw [hf _ _ (by simp)]; simp [go_sem], by omega⟩
  clear hb1
  have HS := Lib.hid hs
  obtain ⟨hb, c0, c1, c2, c3, c4, c5, cw, fz, sz⟩ := hs
  clear hb
  go_wp2_with fail
  refine (HF.out _ HS.out.bel).mono ?_
  rintro e w' ⟨rfl, rfl⟩
  go_wp2_with fail
  refine (put_s w op rd 0 0 imm 0 (M) (M + rd * 128) _ HS.out 0 5 7 7 5 (Or.inl ⟨rfl, rfl, rfl, rfl, rfl⟩) rd (by omega) V0.out).mono ?_
  clear c0 c1 c2 c3 c4 c5 cw fz sz HS
  rintro e w2 ⟨rfl, hs⟩
  have HS := Lib.hid hs
  obtain ⟨hb, c0, c1, c2, c3, c4, c5, cw, fz, sz⟩ := hs
  clear hb
  go_wp2_with fail
  refine (put_s w op rd 0 0 imm 0 (M + rd * 128) (M + rd * 128) _ HS.out 0 5 15 15 5 (Or.inr (Or.inl ⟨rfl, rfl, rfl, rfl, rfl⟩)) 0 (by omega) V1.out).mono ?_
  clear c0 c1 c2 c3 c4 c5 cw fz sz HS
  rintro e w3 ⟨rfl, hs⟩
  have HS := Lib.hid hs
  obtain ⟨hb, c0, c1, c2, c3, c4, c5, cw, fz, sz⟩ := hs
  clear hb
  go_wp2_with fail
  refine (put_s w op rd 0 0 imm 0 (M + rd * 128) (M + rd * 128) _ HS.out 0 5 20 20 5 (Or.inr (Or.inr (Or.inl ⟨rfl, rfl, rfl, rfl, rfl⟩))) 0 (by omega) V2.out).mono ?_
  clear c0 c1 c2 c3 c4 c5 cw fz sz HS
  rintro e w4 ⟨rfl, hs⟩
  have HS := Lib.hid hs
  obtain ⟨hb, c0, c1, c2, c3, c4, c5, cw, fz, sz⟩ := hs
  clear hb
  go_wp2_with fail
  refine (put_s w op rd 0 0 imm 0 (M + rd * 128) (M + rd * 128) _ HS.out 0 12 20 20 12 (Or.inr (Or.inr (Or.inr (Or.inl ⟨rfl, rfl, rfl, rfl, rfl⟩)))) 0 (by omega) V3.out).mono ?_
  clear c0 c1 c2 c3 c4 c5 cw fz sz HS
  rintro e w5 ⟨rfl, hs⟩
  have HS := Lib.hid hs
  obtain ⟨hb, c0, c1, c2, c3, c4, c5, cw, fz, sz⟩ := hs
  clear hb
  go_wp2_with fail
  refine (put_s w op rd 0 0 imm 0 (M + rd * 128) (M + rd * 128 + imm / 1048576 % 2 * 2147483648) _ HS.out 20 1 31 31 1 (Or.inr (Or.inr (Or.inr (Or.inr (Or.inr (Or.inl ⟨rfl, rfl, rfl, rfl, rfl⟩)))))) imm (by omega) V4.out).mono ?_
  clear c0 c1 c2 c3 c4 c5 cw fz sz HS
  rintro e w6 ⟨rfl, hs⟩
  have HS := Lib.hid hs
  obtain ⟨hb, c0, c1, c2, c3, c4, c5, cw, fz, sz⟩ := hs
  clear hb
  go_wp2_with fail
  refine (put_s w op rd 0 0 imm 0 (M + rd * 128 + imm / 1048576 % 2 * 2147483648) (M + rd * 128 + imm / 1048576 % 2 * 2147483648 + imm / 4096 % 256 * 4096) _ HS.out 12 8 12 12 8 (Or.inr (Or.inr (Or.inr (Or.inr (Or.inr (Or.inr (Or.inl ⟨rfl, rfl, rfl, rfl, rfl⟩))))))) imm (by omega) V5.out).mono ?_
  clear c0 c1 c2 c3 c4 c5 cw fz sz HS
  rintro e w7 ⟨rfl, hs⟩
  have HS := Lib.hid hs
  obtain ⟨hb, c0, c1, c2, c3, c4, c5, cw, fz, sz⟩ := hs
  clear hb
  go_wp2_with fail
  refine (put_s w op rd 0 0 imm 0 (M + rd * 128 + imm / 1048576 % 2 * 2147483648 + imm / 4096 % 256 * 4096) (M + rd * 128 + imm / 1048576 % 2 * 2147483648 + imm / 4096 % 256 * 4096 + imm / 2048 % 2 * 1048576) _ HS.out 11 1 20 20 1 (Or.inr (Or.inr (Or.inr (Or.inr (Or.inr (Or.inr (Or.inr (Or.inl ⟨rfl, rfl, rfl, rfl, rfl⟩)))))))) imm (by omega) V6.out).mono ?_
  clear c0 c1 c2 c3 c4 c5 cw fz sz HS
  rintro e w8 ⟨rfl, hs⟩
  have HS := Lib.hid hs
  obtain ⟨hb, c0, c1, c2, c3, c4, c5, cw, fz, sz⟩ := hs
  clear hb
  go_wp2_with fail
  refine (put_s w op rd 0 0 imm 0 (M + rd * 128 + imm / 1048576 % 2 * 2147483648 + imm / 4096 % 256 * 4096 + imm / 2048 % 2 * 1048576) (M + rd * 128 + imm / 1048576 % 2 * 2147483648 + imm / 4096 % 256 * 4096 + imm / 2048 % 2 * 1048576 + imm / 2 % 1024 * 2097152) _ HS.out 1 10 21 21 10 (Or.inr (Or.inr (Or.inr (Or.inr (Or.inr (Or.inr (Or.inr (Or.inr (Or.inl ⟨rfl, rfl, rfl, rfl, rfl⟩))))))))) imm (by omega) V7.out).mono ?_
  clear c0 c1 c2 c3 c4 c5 cw fz sz HS
  rintro e w9 ⟨rfl, hs⟩
  have HS := Lib.hid hs
  obtain ⟨hb, c0, c1, c2, c3, c4, c5, cw, fz, sz⟩ := hs
  clear hb
  go_wp2
  go_ret2
  exact ⟨rfl, HS.out.bel⟩
set_option maxHeartbeats 8000000 in
set_option maxRecDepth 100000 in
theorem enc_f3 (op rd rs1 imm M : Int) (hrd : 0 ≤ rd ∧ rd ≤ 31) (hrs1 : 0 ≤ rs1 ∧ rs1 ≤ 31) (himm : 0 ≤ imm ∧ imm ≤ 4294967295) (hM : MatOk 3 M) (w : World)
    (HM : Hid (∀ v, Below w.heap.size w v → Calls Tryd.prog 23 #[.int .i64 op] v fun e w' => e = .returned (.tuple #[.int .u32 M, .int .i64 0]) ∧ v = w'))
    (HR : Hid (∀ v, Below w.heap.size w v → Calls Tryd.prog 44 #[.agg #[.int .i64 op, .int .i64 rd, .int .i64 rs1, .int .i64 0, .int .u32 imm, .int .i64 0]] v fun e w' => e = .returned (.bool true) ∧ Below v.heap.size v w'))
    (HF : Hid (∀ v, Below w.heap.size w v → Calls Tryd.prog 53 #[.int .i64 op] v fun e w' => e = .returned (.tuple #[.int .i64 3, .int .i64 0]) ∧ v = w')) :
    Calls Tryd.prog 22 #[.agg #[.int .i64 op, .int .i64 rd, .int .i64 rs1, .int .i64 0, .int .u32 imm, .int .i64 0]] w fun e w' => e = .returned (.tuple #[.int .u32 (M + rd * 128 + rs1 * 32768 + imm % 4096 * 1048576), .int .i64 0]) ∧ Below w.heap.size w w' := by
  obtain ⟨m0, m1, m2, m3, m4⟩ := hM
  obtain ⟨m5, m6, m7⟩ := m2 (by decide)
  have m8 := m3 (by decide)
  clear m2 m3 m4
  have r0 : 0 ≤ imm % 4096 ∧ imm % 4096 < 4096 := by omega
  have v0 : bits .or .u32 (M) (rd / 2 ^ (0 : Int).toNat % 2 ^ 5 * 2 ^ 7) = M + rd * 128 := by
    rw [orm (M) rd _ 5 7 ⟨by generalize imm % 4096 = y0 at *; omega, by generalize imm % 4096 = y0 at *; omega⟩ (by decide) (by simp only [Nat.reduceAdd, Int.reducePow]; generalize imm % 4096 = y0 at *; omega)]
    simp only [Int.reduceToNat, Int.reducePow]
    try omega
  have V0 := Lib.hid v0
  clear v0
  have v1 : bits .or .u32 (M + rd * 128) (rs1 / 2 ^ (0 : Int).toNat % 2 ^ 5 * 2 ^ 15) = M + rd * 128 + rs1 * 32768 := by
    rw [orm (M + rd * 128) rs1 _ 5 15 ⟨by generalize imm % 4096 = y0 at *; omega, by generalize imm % 4096 = y0 at *; omega⟩ (by decide) (by simp only [Nat.reduceAdd, Int.reducePow]; generalize imm % 4096 = y0 at *; omega)]
    simp only [Int.reduceToNat, Int.reducePow]
    try omega
  have V1 := Lib.hid v1
  clear v1
  have v2 : bits .or .u32 (M + rd * 128 + rs1 * 32768) ((0 : Int) / 2 ^ (0 : Int).toNat % 2 ^ 5 * 2 ^ 20) = M + rd * 128 + rs1 * 32768 := or0 _ ⟨by omega, by omega⟩ _ _ _
  have V2 := Lib.hid v2
  clear v2
  have v3 : bits .or .u32 (M + rd * 128 + rs1 * 32768) ((0 : Int) / 2 ^ (0 : Int).toNat % 2 ^ 12 * 2 ^ 20) = M + rd * 128 + rs1 * 32768 := or0 _ ⟨by omega, by omega⟩ _ _ _
  have V3 := Lib.hid v3
  clear v3
  have v4 : bits .or .u32 (M + rd * 128 + rs1 * 32768) (imm / 2 ^ (0 : Int).toNat % 2 ^ 12 * 2 ^ 20) = M + rd * 128 + rs1 * 32768 + imm % 4096 * 1048576 := by
    rw [orm (M + rd * 128 + rs1 * 32768) imm _ 12 20 ⟨by generalize imm % 4096 = y0 at *; omega, by generalize imm % 4096 = y0 at *; omega⟩ (by decide) (by simp only [Nat.reduceAdd, Int.reducePow]; generalize imm % 4096 = y0 at *; omega)]
    simp only [Int.reduceToNat, Int.reducePow]
    try omega
  have V4 := Lib.hid v4
  clear v4
  have hbw := bal (bal (Below.refl w.heap.size w) (.cells #[.int .i64 op, .int .i64 rd, .int .i64 rs1, .int .i64 0, .int .u32 imm, .int .i64 0] 24)) (.cells #[.int .u32 M] 22)
  have hbx := bal (Below.refl w.heap.size w) (.cells #[.int .i64 op, .int .i64 rd, .int .i64 rs1, .int .i64 0, .int .u32 imm, .int .i64 0] 24)
  have HBW := Lib.hid hbw
  have HBX := Lib.hid hbx
  have hm := emhf
  clear hbw hbx m0 m1 m5 m6 m7 m8 r0
  go_enter Tryd.func22, Tryd.ntmps22
  go_wp2_with fail
  refine (HM.out _ HBX.out).mono ?_
  rintro e w' ⟨rfl, rfl⟩
  go_wp2_with fail
  refine (HR.out _ HBW.out).mono ?_
  rintro e w1 ⟨rfl, hb1⟩
  have hs : EncAt w op rd rs1 0 imm 0 M w1 := by
    have hc := (bcf hb1).1
    have hf := (bcf hb1).2
    have hz := hb1.size
    simp only [World.size_alloc] at hz
    exact ⟨bthen HBW.out hb1, by rw [hc _ _ (by simp; omega)]; simp [go_sem], by rw [hc _ _ (by simp; omega)]; simp [go_sem], by rw [hc _ _ (by simp; omega)]; simp [go_sem], by rw [hc _ _ (by simp; omega)]; simp [go_sem], by rw [hc _ _ (by simp; omega)]; simp [go_sem], by rw [hc _ _ (by simp; omega)]; simp [go_sem], by rw [hc _ _ (by simp)]; simp [go_sem], by rw [hf _ _ (by simp)]; simp [go_sem], by omega⟩
  clear hb1
  have HS := Lib.hid hs
  obtain ⟨hb, c0, c1, c2, c3, c4, c5, cw, fz, sz⟩ := hs
  clear hb
  go_wp2_with fail
  refine (HF.out _ HS.out.bel).mono ?_
  rintro e w' ⟨rfl, rfl⟩
  go_wp2_with fail
  refine (put_s w op rd rs1 0 imm 0 (M) (M + rd * 128) _ HS.out 0 5 7 7 5 (Or.inl ⟨rfl, rfl, rfl, rfl, rfl⟩) rd (by omega) V0.out).mono ?_
  clear c0 c1 c2 c3 c4 c5 cw fz sz HS
  rintro e w2 ⟨rfl, hs⟩
  have HS := Lib.hid hs
  obtain ⟨hb, c0, c1, c2, c3, c4, c5, cw, fz, sz⟩ := hs
  clear hb
  go_wp2_with fail
  refine (put_s w op rd rs1 0 imm 0 (M + rd * 128) (M + rd * 128 + rs1 * 32768) _ HS.out 0 5 15 15 5 (Or.inr (Or.inl ⟨rfl, rfl, rfl, rfl, rfl⟩)) rs1 (by omega) V1.out).mono ?_
  clear c0 c1 c2 c3 c4 c5 cw fz sz HS
  rintro e w3 ⟨rfl, hs⟩
  have HS := Lib.hid hs
  obtain ⟨hb, c0, c1, c2, c3, c4, c5, cw, fz, sz⟩ := hs
  clear hb
  go_wp2_with fail
  refine (put_s w op rd rs1 0 imm 0 (M + rd * 128 + rs1 * 32768) (M + rd * 128 + rs1 * 32768) _ HS.out 0 5 20 20 5 (Or.inr (Or.inr (Or.inl ⟨rfl, rfl, rfl, rfl, rfl⟩))) 0 (by omega) V2.out).mono ?_
  clear c0 c1 c2 c3 c4 c5 cw fz sz HS
  rintro e w4 ⟨rfl, hs⟩
  have HS := Lib.hid hs
  obtain ⟨hb, c0, c1, c2, c3, c4, c5, cw, fz, sz⟩ := hs
  clear hb
  go_wp2_with fail
  refine (put_s w op rd rs1 0 imm 0 (M + rd * 128 + rs1 * 32768) (M + rd * 128 + rs1 * 32768) _ HS.out 0 12 20 20 12 (Or.inr (Or.inr (Or.inr (Or.inl ⟨rfl, rfl, rfl, rfl, rfl⟩)))) 0 (by omega) V3.out).mono ?_
  clear c0 c1 c2 c3 c4 c5 cw fz sz HS
  rintro e w5 ⟨rfl, hs⟩
  have HS := Lib.hid hs
  obtain ⟨hb, c0, c1, c2, c3, c4, c5, cw, fz, sz⟩ := hs
  clear hb
  go_wp2_with fail
  refine (put_s w op rd rs1 0 imm 0 (M + rd * 128 + rs1 * 32768) (M + rd * 128 + rs1 * 32768 + imm % 4096 * 1048576) _ HS.out 0 12 20 20 12 (Or.inr (Or.inr (Or.inr (Or.inl ⟨rfl, rfl, rfl, rfl, rfl⟩)))) imm (by omega) V4.out).mono ?_
  clear c0 c1 c2 c3 c4 c5 cw fz sz HS
  rintro e w6 ⟨rfl, hs⟩
  have HS := Lib.hid hs
  obtain ⟨hb, c0, c1, c2, c3, c4, c5, cw, fz, sz⟩ := hs
  clear hb
  go_wp2
  go_ret2
  exact ⟨rfl, HS.out.bel⟩
set_option maxHeartbeats 8000000 in
set_option maxRecDepth 100000 in
theorem enc_f4 (op rs1 rs2 imm M : Int) (hrs1 : 0 ≤ rs1 ∧ rs1 ≤ 31) (hrs2 : 0 ≤ rs2 ∧ rs2 ≤ 31) (himm : 0 ≤ imm ∧ imm ≤ 4294967295) (hM : MatOk 4 M) (w : World)
    (HM : Hid (∀ v, Below w.heap.size w v → Calls Tryd.prog 23 #[.int .i64 op] v fun e w' => e = .returned (.tuple #[.int .u32 M, .int .i64 0]) ∧ v = w'))
    (HR : Hid (∀ v, Below w.heap.size w v → Calls Tryd.prog 44 #[.agg #[.int .i64 op, .int .i64 0, .int .i64 rs1, .int .i64 rs2, .int .u32 imm, .int .i64 0]] v fun e w' => e = .returned (.bool true) ∧ Below v.heap.size v w'))
    (HF : Hid (∀ v, Below w.heap.size w v → Calls Tryd.prog 53 #[.int .i64 op] v fun e w' => e = .returned (.tuple #[.int .i64 4, .int .i64 0]) ∧ v = w')) :
    Calls Tryd.prog 22 #[.agg #[.int .i64 op, .int .i64 0, .int .i64 rs1, .int .i64 rs2, .int .u32 imm, .int .i64 0]] w fun e w' => e = .returned (.tuple #[.int .u32 (M + rs1 * 32768 + rs2 * 1048576 + imm / 4096 % 2 * 2147483648 + imm / 2048 % 2 * 128 + imm / 32 % 64 * 33554432 + imm / 2 % 16 * 256), .int .i64 0]) ∧ Below w.heap.size w w' := by
  obtain ⟨m0, m1, m2, m3, m4⟩ := hM
  obtain ⟨m5, m6, m7⟩ := m2 (by decide)
  have m8 := m3 (by decide)
  clear m2 m3 m4
  have r0 : 0 ≤ imm / 4096 % 2 ∧ imm / 4096 % 2 < 2 := by omega
  have r1 : 0 ≤ imm / 2048 % 2 ∧ imm / 2048 % 2 < 2 := by omega
  have r2 : 0 ≤ imm / 32 % 64 ∧ imm / 32 % 64 < 64 := by omega
  have r3 : 0 ≤ imm / 2 % 16 ∧ imm / 2 % 16 < 16 := by omega
  have v0 : bits .or .u32 (M) ((0 : Int) / 2 ^ (0 : Int).toNat % 2 ^ 5 * 2 ^ 7) = M := or0 _ ⟨by omega, by omega⟩ _ _ _
  have V0 := Lib.hid v0
  clear v0
  have v1 : bits .or .u32 (M) (rs1 / 2 ^ (0 : Int).toNat % 2 ^ 5 * 2 ^ 15) = M + rs1 * 32768 := by
    rw [orm (M) rs1 _ 5 15 ⟨by generalize imm / 4096 % 2 = y0 at *; generalize imm / 2048 % 2 = y1 at *; generalize imm / 32 % 64 = y2 at *; generalize imm / 2 % 16 = y3 at *; omega, by generalize imm / 4096 % 2 = y0 at *; generalize imm / 2048 % 2 = y1 at *; generalize imm / 32 % 64 = y2 at *; generalize imm / 2 % 16 = y3 at *; omega⟩ (by decide) (by simp only [Nat.reduceAdd, Int.reducePow]; generalize imm / 4096 % 2 = y0 at *; generalize imm / 2048 % 2 = y1 at *; generalize imm / 32 % 64 = y2 at *; generalize imm / 2 % 16 = y3 at *; omega)]
    simp only [Int.reduceToNat, Int.reducePow]
    try omega
  have V1 := Lib.hid v1
  clear v1
  have v2 : bits .or .u32 (M + rs1 * 32768) (rs2 / 2 ^ (0 : Int).toNat % 2 ^ 5 * 2 ^ 20) = M + rs1 * 32768 + rs2 * 1048576 := by
    rw [orm (M + rs1 * 32768) rs2 _ 5 20 ⟨by generalize imm / 4096 % 2 = y0 at *; generalize imm / 2048 % 2 = y1 at *; generalize imm / 32 % 64 = y2 at *; generalize imm / 2 % 16 = y3 at *; omega, by generalize imm / 4096 % 2 = y0 at *; generalize imm / 2048 % 2 = y1 at *; generalize imm / 32 % 64 = y2 at *; generalize imm / 2 % 16 = y3 at *; omega⟩ (by decide) (by simp only [Nat.reduceAdd, Int.reducePow]; generalize imm / 4096 % 2 = y0 at *; generalize imm / 2048 % 2 = y1 at *; generalize imm / 32 % 64 = y2 at *; generalize imm / 2 % 16 = y3 at *; omega)]
    simp only [Int.reduceToNat, Int.reducePow]
    try omega
  have V2 := Lib.hid v2
  clear v2
  have v3 : bits .or .u32 (M + rs1 * 32768 + rs2 * 1048576) ((0 : Int) / 2 ^ (0 : Int).toNat % 2 ^ 12 * 2 ^ 20) = M + rs1 * 32768 + rs2 * 1048576 := or0 _ ⟨by omega, by omega⟩ _ _ _
  have V3 := Lib.hid v3
  clear v3
  have v4 : bits .or .u32 (M + rs1 * 32768 + rs2 * 1048576) (imm / 2 ^ (12 : Int).toNat % 2 ^ 1 * 2 ^ 31) = M + rs1 * 32768 + rs2 * 1048576 + imm / 4096 % 2 * 2147483648 := by
    rw [orm (M + rs1 * 32768 + rs2 * 1048576) imm _ 1 31 ⟨by generalize imm / 4096 % 2 = y0 at *; generalize imm / 2048 % 2 = y1 at *; generalize imm / 32 % 64 = y2 at *; generalize imm / 2 % 16 = y3 at *; omega, by generalize imm / 4096 % 2 = y0 at *; generalize imm / 2048 % 2 = y1 at *; generalize imm / 32 % 64 = y2 at *; generalize imm / 2 % 16 = y3 at *; omega⟩ (by decide) (by simp only [Nat.reduceAdd, Int.reducePow]; generalize imm / 4096 % 2 = y0 at *; generalize imm / 2048 % 2 = y1 at *; generalize imm / 32 % 64 = y2 at *; generalize imm / 2 % 16 = y3 at *; omega)]
    simp only [Int.reduceToNat, Int.reducePow]
    try omega
  have V4 := Lib.hid v4
  clear v4
  have v5 : bits .or .u32 (M + rs1 * 32768 + rs2 * 1048576 + imm / 4096 % 2 * 2147483648) (imm / 2 ^ (11 : Int).toNat % 2 ^ 1 * 2 ^ 7) = M + rs1 * 32768 + rs2 * 1048576 + imm / 4096 % 2 * 2147483648 + imm / 2048 % 2 * 128 := by
    rw [orm (M + rs1 * 32768 + rs2 * 1048576 + imm / 4096 % 2 * 2147483648) imm _ 1 7 ⟨by generalize imm / 4096 % 2 = y0 at *; generalize imm / 2048 % 2 = y1 at *; generalize imm / 32 % 64 = y2 at *; generalize imm / 2 % 16 = y3 at *; omega, by generalize imm / 4096 % 2 = y0 at *; generalize imm / 2048 % 2 = y1 at *; generalize imm / 32 % 64 = y2 at *; generalize imm / 2 % 16 = y3 at *; omega⟩ (by decide) (by simp only [Nat.reduceAdd, Int.reducePow]; generalize imm / 4096 % 2 = y0 at *; generalize imm / 2048 % 2 = y1 at *; generalize imm / 32 % 64 = y2 at *; generalize imm / 2 % 16 = y3 at *; omega)]
    simp only [Int.reduceToNat, Int.reducePow]
    try omega
  have V5 := Lib.hid v5
  clear v5
  have v6 : bits .or .u32 (M + rs1 * 32768 + rs2 * 1048576 + imm / 4096 % 2 * 2147483648 + imm / 2048 % 2 * 128) (imm / 2 ^ (5 : Int).toNat % 2 ^ 6 * 2 ^ 25) = M + rs1 * 32768 + rs2 * 1048576 + imm / 4096 % 2 * 2147483648 + imm / 2048 % 2 * 128 + imm / 32 % 64 * 33554432 := by
    rw [orm (M + rs1 * 32768 + rs2 * 1048576 + imm / 4096 % 2 * 2147483648 + imm / 2048 % 2 * 128) imm _ 6 25 ⟨by generalize imm / 4096 % 2 = y0 at *; generalize imm / 2048 % 2 = y1 at *; generalize imm / 32 % 64 = y2 at *; generalize imm / 2 % 16 = y3 at *; omega, by generalize imm / 4096 % 2 = y0 at *; generalize imm / 2048 % 2 = y1 at *; generalize imm / 32 % 64 = y2 at *; generalize imm / 2 % 16 = y3 at *; omega⟩ (by decide) (by simp only [Nat.reduceAdd, Int.reducePow]; generalize imm / 4096 % 2 = y0 at *; generalize imm / 2048 % 2 = y1 at *; generalize imm / 32 % 64 = y2 at *; generalize imm / 2 % 16 = y3 at *; omega)]
    simp only [Int.reduceToNat, Int.reducePow]
    try omega
  have V6 := Lib.hid v6
  clear v6
  have v7 : bits .or .u32 (M + rs1 * 32768 + rs2 * 1048576 + imm / 4096 % 2 * 2147483648 + imm / 2048 % 2 * 128 + imm / 32 % 64 * 33554432) (imm / 2 ^ (1 : Int).toNat % 2 ^ 4 * 2 ^ 8) = M + rs1 * 32768 + rs2 * 1048576 + imm / 4096 % 2 * 2147483648 + imm / 2048 % 2 * 128 + imm / 32 % 64 * 33554432 + imm / 2 % 16 * 256 := by
    rw [orm (M + rs1 * 32768 + rs2 * 1048576 + imm / 4096 % 2 * 2147483648 + imm / 2048 % 2 * 128 + imm / 32 % 64 * 33554432) imm _ 4 8 ⟨by generalize imm / 4096 % 2 = y0 at *; generalize imm / 2048 % 2 = y1 at *; generalize imm / 32 % 64 = y2 at *; generalize imm / 2 % 16 = y3 at *; omega, by generalize imm / 4096 % 2 = y0 at *; generalize imm / 2048 % 2 = y1 at *; generalize imm / 32 % 64 = y2 at *; generalize imm / 2 % 16 = y3 at *; omega⟩ (by decide) (by simp only [Nat.reduceAdd, Int.reducePow]; generalize imm / 4096 % 2 = y0 at *; generalize imm / 2048 % 2 = y1 at *; generalize imm / 32 % 64 = y2 at *; generalize imm / 2 % 16 = y3 at *; omega)]
    simp only [Int.reduceToNat, Int.reducePow]
    try omega
  have V7 := Lib.hid v7
  clear v7
  have hbw := bal (bal (Below.refl w.heap.size w) (.cells #[.int .i64 op, .int .i64 0, .int .i64 rs1, .int .i64 rs2, .int .u32 imm, .int .i64 0] 24)) (.cells #[.int .u32 M] 22)
  have hbx := bal (Below.refl w.heap.size w) (.cells #[.int .i64 op, .int .i64 0, .int .i64 rs1, .int .i64 rs2, .int .u32 imm, .int .i64 0] 24)
  have HBW := Lib.hid hbw
  have HBX := Lib.hid hbx
  have hm := emhf
  clear hbw hbx m0 m1 m5 m6 m7 m8 r0 r1 r2 r3
  go_enter Tryd.func22, Tryd.ntmps22
  go_wp2_with fail
  refine (HM.out _ HBX.out).mono ?_
  rintro e w' ⟨rfl, rfl⟩
  go_wp2_with fail
  refine (HR.out _ HBW.out).mono ?_
  rintro e w1 ⟨rfl, hb1⟩
  have hs : EncAt w op 0 rs1 rs2 imm 0 M w1 := by
    have hc := (bcf hb1).1
    have hf := (bcf hb1).2
    have hz := hb1.size
    simp only [World.size_alloc] at hz
    exact ⟨bthen HBW.out hb1, by rw [hc _ _ (by simp; omega)]; simp [go_sem], by rw [hc _ _ (by simp; omega)]; simp [go_sem], by rw [hc _ _ (by simp; omega)]; simp [go_sem], by rw [hc _ _ (by simp; omega)]; simp [go_sem], by rw [hc _ _ (by simp; omega)]; simp [go_sem], by rw [hc _ _ (by simp; omega)]; simp [go_sem], by rw [hc _ _ (by simp)]; simp [go_sem], by rw [hf _ _ (by simp)]; simp [go_sem], by omega⟩
  clear hb1
  have HS := Lib.hid hs
  obtain ⟨hb, c0, c1, c2, c3, c4, c5, cw, fz, sz⟩ := hs
  clear hb
  go_wp2_with fail
  refine (HF.out _ HS.out.bel).mono ?_
  rintro e w' ⟨rfl, rfl⟩
  go_wp2_with fail
  refine (put_s w op 0 rs1 rs2 imm 0 (M) (M) _ HS.out 0 5 7 7 5 (Or.inl ⟨rfl, rfl, rfl, rfl, rfl⟩) 0 (by omega) V0.out).mono ?_
  clear c0 c1 c2 c3 c4 c5 cw fz sz HS
  rintro e w2 ⟨rfl, hs⟩
  have HS := Lib.hid hs
  obtain ⟨hb, c0, c1, c2, c3, c4, c5, cw, fz, sz⟩ := hs
  clear hb
  go_wp2_with fail
  refine (put_s w op 0 rs1 rs2 imm 0 (M) (M + rs1 * 32768) _ HS.out 0 5 15 15 5 (Or.inr (Or.inl ⟨rfl, rfl, rfl, rfl, rfl⟩)) rs1 (by omega) V1.out).mono ?_
  clear c0 c1 c2 c3 c4 c5 cw fz sz HS
  rintro e w3 ⟨rfl, hs⟩
  have HS := Lib.hid hs
  obtain ⟨hb, c0, c1, c2, c3, c4, c5, cw, fz, sz⟩ := hs
  clear hb
  go_wp2_with fail
  refine (put_s w op 0 rs1 rs2 imm 0 (M + rs1 * 32768) (M + rs1 * 32768 + rs2 * 1048576) _ HS.out 0 5 20 20 5 (Or.inr (Or.inr (Or.inl ⟨rfl, rfl, rfl, rfl, rfl⟩))) rs2 (by omega) V2.out).mono ?_
  clear c0 c1 c2 c3 c4 c5 cw fz sz HS
  rintro e w4 ⟨rfl, hs⟩
  have HS := Lib.hid hs
  obtain ⟨hb, c0, c1, c2, c3, c4, c5, cw, fz, sz⟩ := hs
  clear hb
  go_wp2_with fail
  refine (put_s w op 0 rs1 rs2 imm 0 (M + rs1 * 32768 + rs2 * 1048576) (M + rs1 * 32768 + rs2 * 1048576) _ HS.out 0 12 20 20 12 (Or.inr (Or.inr (Or.inr (Or.inl ⟨rfl, rfl, rfl, rfl, rfl⟩)))) 0 (by omega) V3.out).mono ?_
  clear c0 c1 c2 c3 c4 c5 cw fz sz HS
  rintro e w5 ⟨rfl, hs⟩
  have HS := Lib.hid hs
  obtain ⟨hb, c0, c1, c2, c3, c4, c5, cw, fz, sz⟩ := hs
  clear hb
  go_wp2_with fail
  refine (put_s w op 0 rs1 rs2 imm 0 (M + rs1 * 32768 + rs2 * 1048576) (M + rs1 * 32768 + rs2 * 1048576 + imm / 4096 % 2 * 2147483648) _ HS.out 12 1 31 31 1 (Or.inr (Or.inr (Or.inr (Or.inr (Or.inr (Or.inr (Or.inr (Or.inr (Or.inr (Or.inl ⟨rfl, rfl, rfl, rfl, rfl⟩)))))))))) imm (by omega) V4.out).mono ?_
  clear c0 c1 c2 c3 c4 c5 cw fz sz HS
  rintro e w6 ⟨rfl, hs⟩
  have HS := Lib.hid hs
  obtain ⟨hb, c0, c1, c2, c3, c4, c5, cw, fz, sz⟩ := hs
  clear hb
  go_wp2_with fail
  refine (put_s w op 0 rs1 rs2 imm 0 (M + rs1 * 32768 + rs2 * 1048576 + imm / 4096 % 2 * 2147483648) (M + rs1 * 32768 + rs2 * 1048576 + imm / 4096 % 2 * 2147483648 + imm / 2048 % 2 * 128) _ HS.out 11 1 7 7 1 (Or.inr (Or.inr (Or.inr (Or.inr (Or.inr (Or.inr (Or.inr (Or.inr (Or.inr (Or.inr (Or.inl ⟨rfl, rfl, rfl, rfl, rfl⟩))))))))))) imm (by omega) V5.out).mono ?_
  clear c0 c1 c2 c3 c4 c5 cw fz sz HS
  rintro e w7 ⟨rfl, hs⟩
  have HS := Lib.hid hs
  obtain ⟨hb, c0, c1, c2, c3, c4, c5, cw, fz, sz⟩ := hs
  clear hb
  go_wp2_with fail
  refine (put_s w op 0 rs1 rs2 imm 0 (M + rs1 * 32768 + rs2 * 1048576 + imm / 4096 % 2 * 2147483648 + imm / 2048 % 2 * 128) (M + rs1 * 32768 + rs2 * 1048576 + imm / 4096 % 2 * 2147483648 + imm / 2048 % 2 * 128 + imm / 32 % 64 * 33554432) _ HS.out 5 6 25 25 6 (Or.inr (Or.inr (Or.inr (Or.inr (Or.inr (Or.inr (Or.inr (Or.inr (Or.inr (Or.inr (Or.inr (Or.inl ⟨rfl, rfl, rfl, rfl, rfl⟩)))))))))))) imm (by omega) V6.out).mono ?_
  clear c0 c1 c2 c3 c4 c5 cw fz sz HS
  rintro e w8 ⟨rfl, hs⟩
  have HS := Lib.hid hs
  obtain ⟨hb, c0, c1, c2, c3, c4, c5, cw, fz, sz⟩ := hs
  clear hb
  go_wp2_with fail
  refine (put_s w op 0 rs1 rs2 imm 0 (M + rs1 * 32768 + rs2 * 1048576 + imm / 4096 % 2 * 2147483648 + imm / 2048 % 2 * 128 + imm / 32 % 64 * 33554432) (M + rs1 * 32768 + rs2 * 1048576 + imm / 4096 % 2 * 2147483648 + imm / 2048 % 2 * 128 + imm / 32 % 64 * 33554432 + imm / 2 % 16 * 256) _ HS.out 1 4 8 8 4 (Or.inr (Or.inr (Or.inr (Or.inr (Or.inr (Or.inr (Or.inr (Or.inr (Or.inr (Or.inr (Or.inr (Or.inr (Or.inl ⟨rfl, rfl, rfl, rfl, rfl⟩))))))))))))) imm (by omega) V7.out).mono ?_
  clear c0 c1 c2 c3 c4 c5 cw fz sz HS
  rintro e w9 ⟨rfl, hs⟩
  have HS := Lib.hid hs
  obtain ⟨hb, c0, c1, c2, c3, c4, c5, cw, fz, sz⟩ := hs
  clear hb
  go_wp2
  go_ret2
  exact ⟨rfl, HS.out.bel⟩
set_option maxHeartbeats 8000000 in
set_option maxRecDepth 100000 in
theorem enc_f5 (op rs1 rs2 imm M : Int) (hrs1 : 0 ≤ rs1 ∧ rs1 ≤ 31) (hrs2 : 0 ≤ rs2 ∧ rs2 ≤ 31) (himm : 0 ≤ imm ∧ imm ≤ 4294967295) (hM : MatOk 5 M) (w : World)
    (HM : Hid (∀ v, Below w.heap.size w v → Calls Tryd.prog 23 #[.int .i64 op] v fun e w' => e = .returned (.tuple #[.int .u32 M, .int .i64 0]) ∧ v = w'))
    (HR : Hid (∀ v, Below w.heap.size w v → Calls Tryd.prog 44 #[.agg #[.int .i64 op, .int .i64 0, .int .i64 rs1, .int .i64 rs2, .int .u32 imm, .int .i64 0]] v fun e w' => e = .returned (.bool true) ∧ Below v.heap.size v w'))
    (HF : Hid (∀ v, Below w.heap.size w v → Calls Tryd.prog 53 #[.int .i64 op] v fun e w' => e = .returned (.tuple #[.int .i64 5, .int .i64 0]) ∧ v = w')) :
    Calls Tryd.prog 22 #[.agg #[.int .i64 op, .int .i64 0, .int .i64 rs1, .int .i64 rs2, .int .u32 imm, .int .i64 0]] w fun e w' => e = .returned (.tuple #[.int .u32 (M + rs1 * 32768 + rs2 * 1048576 + imm / 32 % 128 * 33554432 + imm % 32 * 128), .int .i64 0]) ∧ Below w.heap.size w w' := by
  obtain ⟨m0, m1, m2, m3, m4⟩ := hM
  obtain ⟨m5, m6, m7⟩ := m2 (by decide)
  have m8 := m3 (by decide)
  clear m2 m3 m4
  have r0 : 0 ≤ imm / 32 % 128 ∧ imm / 32 % 128 < 128 := by omega
  have r1 : 0 ≤ imm % 32 ∧ imm % 32 < 32 := by omega
  have v0 : bits .or .u32 (M) ((0 : Int) / 2 ^ (0 : Int).toNat % 2 ^ 5 * 2 ^ 7) = M := or0 _ ⟨by omega, by omega⟩ _ _ _
  have V0 := Lib.hid v0
  clear v0
  have v1 : bits .or .u32 (M) (rs1 / 2 ^ (0 : Int).toNat % 2 ^ 5 * 2 ^ 15) = M + rs1 * 32768 := by
    rw [orm (M) rs1 _ 5 15 ⟨by generalize imm / 32 % 128 = y0 at *; generalize imm % 32 = y1 at *; omega, by generalize imm / 32 % 128 = y0 at *; generalize imm % 32 = y1 at *; omega⟩ (by decide) (by simp only [Nat.reduceAdd, Int.reducePow]; generalize imm / 32 % 128 = y0 at *; generalize imm % 32 = y1 at *; omega)]
    simp only [Int.reduceToNat, Int.reducePow]
    try omega
  have V1 := Lib.hid v1
  clear v1
  have v2 : bits .or .u32 (M + rs1 * 32768) (rs2 / 2 ^ (0 : Int).toNat % 2 ^ 5 * 2 ^ 20) = M + rs1 * 32768 + rs2 * 1048576 := by
    rw [orm (M + rs1 * 32768) rs2 _ 5 20 ⟨by generalize imm / 32 % 128 = y0 at *; generalize imm % 32 = y1 at *; omega, by generalize imm / 32 % 128 = y0 at *; generalize imm % 32 = y1 at *; omega⟩ (by decide) (by simp only [Nat.reduceAdd, Int.reducePow]; generalize imm / 32 % 128 = y0 at *; generalize imm % 32 = y1 at *; omega)]
    simp only [Int.reduceToNat, Int.reducePow]
    try omega
  have V2 := Lib.hid v2
  clear v2
  have v3 : bits .or .u32 (M + rs1 * 32768 + rs2 * 1048576) ((0 : Int) / 2 ^ (0 : Int).toNat % 2 ^ 12 * 2 ^ 20) = M + rs1 * 32768 + rs2 * 1048576 := or0 _ ⟨by omega, by omega⟩ _ _ _
  have V3 := Lib.hid v3
  clear v3
  have v4 : bits .or .u32 (M + rs1 * 32768 + rs2 * 1048576) (imm / 2 ^ (5 : Int).toNat % 2 ^ 7 * 2 ^ 25) = M + rs1 * 32768 + rs2 * 1048576 + imm / 32 % 128 * 33554432 := by
    rw [orm (M + rs1 * 32768 + rs2 * 1048576) imm _ 7 25 ⟨by generalize imm / 32 % 128 = y0 at *; generalize imm % 32 = y1 at *; omega, by generalize imm / 32 % 128 = y0 at *; generalize imm % 32 = y1 at *; omega⟩ (by decide) (by simp only [Nat.reduceAdd, Int.reducePow]; generalize imm / 32 % 128 = y0 at *; generalize imm % 32 = y1 at *; omega)]
    simp only [Int.reduceToNat, Int.reducePow]
    try omega
  have V4 := Lib.hid v4
  clear v4
  have v5 : bits .or .u32 (M + rs1 * 32768 + rs2 * 1048576 + imm / 32 % 128 * 33554432) (imm / 2 ^ (0 : Int).toNat % 2 ^ 5 * 2 ^ 7) = M + rs1 * 32768 + rs2 * 1048576 + imm / 32 % 128 * 33554432 + imm % 32 * 128 := by
    rw [orm (M + rs1 * 32768 + rs2 * 1048576 + imm / 32 % 128 * 33554432) imm _ 5 7 ⟨by generalize imm / 32 % 128 = y0 at *; generalize imm % 32 = y1 at *; omega, by generalize imm / 32 % 128 = y0 at *; generalize imm % 32 = y1 at *; omega⟩ (by decide) (by simp only [Nat.reduceAdd, Int.reducePow]; generalize imm / 32 % 128 = y0 at *; generalize imm % 32 = y1 at *; omega)]
    simp only [Int.reduceToNat, Int.reducePow]
    try omega
  have V5 := Lib.hid v5
  clear v5
  have hbw := bal (bal (Below.refl w.heap.size w) (.cells #[.int .i64 op, .int .i64 0, .int .i64 rs1, .int .i64 rs2, .int .u32 imm, .int .i64 0] 24)) (.cells #[.int .u32 M] 22)
  have hbx := bal (Below.refl w.heap.size w) (.cells #[.int .i64 op, .int .i64 0, .int .i64 rs1, .int .i64 rs2, .int .u32 imm, .int .i64 0] 24)
  have HBW := Lib.hid hbw
  have HBX := Lib.hid hbx
  have hm := emhf
  clear hbw hbx m0 m1 m5 m6 m7 m8 r0 r1
  go_enter Tryd.func22, Tryd.ntmps22
  go_wp2_with fail
  refine (HM.out _ HBX.out).mono ?_
  rintro e w' ⟨rfl, rfl⟩
  go_wp2_with fail
  refine (HR.out _ HBW.out).mono ?_
  rintro e w1 ⟨rfl, hb1⟩
  have hs : EncAt w op 0 rs1 rs2 imm 0 M w1 := by
    have hc := (bcf hb1).1
    have hf := (bcf hb1).2
    have hz := hb1.size
    simp only [World.size_alloc] at hz
    exact ⟨bthen HBW.out hb1, by rw [hc _ _ (by simp; omega)]; simp [go_sem], by rw [hc _ _ (by simp; omega)]; simp [go_sem], by rw [hc _ _ (by simp; omega)]; simp [go_sem], by rw [hc _ _ (by simp; omega)]; simp [go_sem], by rw [hc _ _ (by simp; omega)]; simp [go_sem], by rw [hc _ _ (by simp; omega)]; simp [go_sem], by rw [hc _ _ (by simp)]; simp [go_sem], by rw [hf _ _ (by simp)]; simp [go_sem], by omega⟩
  clear hb1
  have HS := Lib.hid hs
  obtain ⟨hb, c0, c1, c2, c3, c4, c5, cw, fz, sz⟩ := hs
  clear hb
  go_wp2_with fail
  refine (HF.out _ HS.out.bel).mono ?_
  rintro e w' ⟨rfl, rfl⟩
  go_wp2_with fail
  refine (put_s w op 0 rs1 rs2 imm 0 (M) (M) _ HS.out 0 5 7 7 5 (Or.inl ⟨rfl, rfl, rfl, rfl, rfl⟩) 0 (by omega) V0.out).mono ?_
  clear c0 c1 c2 c3 c4 c5 cw fz sz HS
  rintro e w2 ⟨rfl, hs⟩
  have HS := Lib.hid hs
  obtain ⟨hb, c0, c1, c2, c3, c4, c5, cw, fz, sz⟩ := hs
  clear hb
  go_wp2_with fail
  refine (put_s w op 0 rs1 rs2 imm 0 (M) (M + rs1 * 32768) _ HS.out 0 5 15 15 5 (Or.inr (Or.inl ⟨rfl, rfl, rfl, rfl, rfl⟩)) rs1 (by omega) V1.out).mono ?_
  clear c0 c1 c2 c3 c4 c5 cw fz sz HS
  rintro e w3 ⟨rfl, hs⟩
  have HS := Lib.hid hs
  obtain ⟨hb, c0, c1, c2, c3, c4, c5, cw, fz, sz⟩ := hs
  clear hb
  go_wp2_with fail
  refine (put_s w op 0 rs1 rs2 imm 0 (M + rs1 * 32768) (M + rs1 * 32768 + rs2 * 1048576) _ HS.out 0 5 20 20 5 (Or.inr (Or.inr (Or.inl ⟨rfl, rfl, rfl, rfl, rfl⟩))) rs2 (by omega) V2.out).mono ?_
  clear c0 c1 c2 c3 c4 c5 cw fz sz HS
  rintro e w4 ⟨rfl, hs⟩
  have HS := Lib.hid hs
  obtain ⟨hb, c0, c1, c2, c3, c4, c5, cw, fz, sz⟩ := hs
  clear hb
  go_wp2_with fail
  refine (put_s w op 0 rs1 rs2 imm 0 (M + rs1 * 32768 + rs2 * 1048576) (M + rs1 * 32768 + rs2 * 1048576) _ HS.out 0 12 20 20 12 (Or.inr (Or.inr (Or.inr (Or.inl ⟨rfl, rfl, rfl, rfl, rfl⟩)))) 0 (by omega) V3.out).mono ?_
  clear c0 c1 c2 c3 c4 c5 cw fz sz HS
  rintro e w5 ⟨rfl, hs⟩
  have HS := Lib.hid hs
  obtain ⟨hb, c0, c1, c2, c3, c4, c5, cw, fz, sz⟩ := hs
  clear hb
  go_wp2_with fail
  refine (put_s w op 0 rs1 rs2 imm 0 (M + rs1 * 32768 + rs2 * 1048576) (M + rs1 * 32768 + rs2 * 1048576 + imm / 32 % 128 * 33554432) _ HS.out 5 7 25 25 7 (Or.inr (Or.inr (Or.inr (Or.inr (Or.inr (Or.inr (Or.inr (Or.inr (Or.inr (Or.inr (Or.inr (Or.inr (Or.inr (⟨rfl, rfl, rfl, rfl, rfl⟩)))))))))))))) imm (by omega) V4.out).mono ?_
  clear c0 c1 c2 c3 c4 c5 cw fz sz HS
  rintro e w6 ⟨rfl, hs⟩
  have HS := Lib.hid hs
  obtain ⟨hb, c0, c1, c2, c3, c4, c5, cw, fz, sz⟩ := hs
  clear hb
  go_wp2_with fail
  refine (put_s w op 0 rs1 rs2 imm 0 (M + rs1 * 32768 + rs2 * 1048576 + imm / 32 % 128 * 33554432) (M + rs1 * 32768 + rs2 * 1048576 + imm / 32 % 128 * 33554432 + imm % 32 * 128) _ HS.out 0 5 7 7 5 (Or.inl ⟨rfl, rfl, rfl, rfl, rfl⟩) imm (by omega) V5.out).mono ?_
  clear c0 c1 c2 c3 c4 c5 cw fz sz HS
  rintro e w7 ⟨rfl, hs⟩
  have HS := Lib.hid hs
  obtain ⟨hb, c0, c1, c2, c3, c4, c5, cw, fz, sz⟩ := hs
  clear hb
  go_wp2
  go_ret2
  exact ⟨rfl, HS.out.bel⟩
set_option maxHeartbeats 8000000 in
set_option maxRecDepth 100000 in
theorem enc_f6 (op rd rs1 rs2 M : Int) (hrd : 0 ≤ rd ∧ rd ≤ 31) (hrs1 : 0 ≤ rs1 ∧ rs1 ≤ 31) (hrs2 : 0 ≤ rs2 ∧ rs2 ≤ 31) (hM : MatOk 6 M) (w : World)
    (HM : Hid (∀ v, Below w.heap.size w v → Calls Tryd.prog 23 #[.int .i64 op] v fun e w' => e = .returned (.tuple #[.int .u32 M, .int .i64 0]) ∧ v = w'))
    (HR : Hid (∀ v, Below w.heap.size w v → Calls Tryd.prog 44 #[.agg #[.int .i64 op, .int .i64 rd, .int .i64 rs1, .int .i64 rs2, .int .u32 0, .int .i64 0]] v fun e w' => e = .returned (.bool true) ∧ Below v.heap.size v w'))
    (HF : Hid (∀ v, Below w.heap.size w v → Calls Tryd.prog 53 #[.int .i64 op] v fun e w' => e = .returned (.tuple #[.int .i64 6, .int .i64 0]) ∧ v = w')) :
    Calls Tryd.prog 22 #[.agg #[.int .i64 op, .int .i64 rd, .int .i64 rs1, .int .i64 rs2, .int .u32 0, .int .i64 0]] w fun e w' => e = .returned (.tuple #[.int .u32 (M + rd * 128 + rs1 * 32768 + rs2 * 1048576), .int .i64 0]) ∧ Below w.heap.size w w' := by
  obtain ⟨m0, m1, m2, m3, m4⟩ := hM
  obtain ⟨m5, m6, m7⟩ := m2 (by decide)
  clear m2 m3 m4
  have v0 : bits .or .u32 (M) (rd / 2 ^ (0 : Int).toNat % 2 ^ 5 * 2 ^ 7) = M + rd * 128 := by
    rw [orm (M) rd _ 5 7 ⟨by omega, by omega⟩ (by decide) (by simp only [Nat.reduceAdd, Int.reducePow]; omega)]
    simp only [Int.reduceToNat, Int.reducePow]
    try omega
  have V0 := Lib.hid v0
  clear v0
  have v1 : bits .or .u32 (M + rd * 128) (rs1 / 2 ^ (0 : Int).toNat % 2 ^ 5 * 2 ^ 15) = M + rd * 128 + rs1 * 32768 := by
    rw [orm (M + rd * 128) rs1 _ 5 15 ⟨by omega, by omega⟩ (by decide) (by simp only [Nat.reduceAdd, Int.reducePow]; omega)]
    simp only [Int.reduceToNat, Int.reducePow]
    try omega
  have V1 := Lib.hid v1
  clear v1
  have v2 : bits .or .u32 (M + rd * 128 + rs1 * 32768) (rs2 / 2 ^ (0 : Int).toNat % 2 ^ 5 * 2 ^ 20) = M + rd * 128 + rs1 * 32768 + rs2 * 1048576 := by
    rw [orm (M + rd * 128 + rs1 * 32768) rs2 _ 5 20 ⟨by omega, by omega⟩ (by decide) (by simp only [Nat.reduceAdd, Int.reducePow]; omega)]
    simp only [Int.reduceToNat, Int.reducePow]
    try omega
  have V2 := Lib.hid v2
  clear v2
  have v3 : bits .or .u32 (M + rd * 128 + rs1 * 32768 + rs2 * 1048576) ((0 : Int) / 2 ^ (0 : Int).toNat % 2 ^ 12 * 2 ^ 20) = M + rd * 128 + rs1 * 32768 + rs2 * 1048576 := or0 _ ⟨by omega, by omega⟩ _ _ _
  have V3 := Lib.hid v3
  clear v3
  have hbw := bal (bal (Below.refl w.heap.size w) (.cells #[.int .i64 op, .int .i64 rd, .int .i64 rs1, .int .i64 rs2, .int .u32 0, .int .i64 0] 24)) (.cells #[.int .u32 M] 22)
  have hbx := bal (Below.refl w.heap.size w) (.cells #[.int .i64 op, .int .i64 rd, .int .i64 rs1, .int .i64 rs2, .int .u32 0, .int .i64 0] 24)
  have HBW := Lib.hid hbw
  have HBX := Lib.hid hbx
  have hm := emhf
  clear hbw hbx m0 m1 m5 m6 m7
  go_enter Tryd.func22, Tryd.ntmps22
  go_wp2_with fail
  refine (HM.out _ HBX.out).mono ?_
  rintro e w' ⟨rfl, rfl⟩
  go_wp2_with fail
  refine (HR.out _ HBW.out).mono ?_
  rintro e w1 ⟨rfl, hb1⟩
  have hs : EncAt w op rd rs1 rs2 0 0 M w1 := by
    have hc := (bcf hb1).1
    have hf := (bcf hb1).2
    have hz := hb1.size
    simp only [World.size_alloc] at hz
    exact ⟨bthen HBW.out hb1, by rw [hc _ _ (by simp; omega)]; simp [go_sem], by rw [hc _ _ (by simp; omega)]; simp [go_sem], by rw [hc _ _ (by simp; omega)]; simp [go_sem], by rw [hc _ _ (by simp; omega)]; simp [go_sem], by rw [hc _ _ (by simp; omega)]; simp [go_sem], by rw [hc _ _ (by simp; omega)]; simp [go_sem], by rw [hc _ _ (by simp)]; simp [go_sem], by rw [hf _ _ (by simp)]; simp [go_sem], by omega⟩
  clear hb1
  have HS := Lib.hid hs
  obtain ⟨hb, c0, c1, c2, c3, c4, c5, cw, fz, sz⟩ := hs
  clear hb
  go_wp2_with fail
  refine (HF.out _ HS.out.bel).mono ?_
  rintro e w' ⟨rfl, rfl⟩
  go_wp2_with fail
  refine (put_s w op rd rs1 rs2 0 0 (M) (M + rd * 128) _ HS.out 0 5 7 7 5 (Or.inl ⟨rfl, rfl, rfl, rfl, rfl⟩) rd (by omega) V0.out).mono ?_
  clear c0 c1 c2 c3 c4 c5 cw fz sz HS
  rintro e w2 ⟨rfl, hs⟩
  have HS := Lib.hid hs
  obtain ⟨hb, c0, c1, c2, c3, c4, c5, cw, fz, sz⟩ := hs
  clear hb
  go_wp2_with fail
  refine (put_s w op rd rs1 rs2 0 0 (M + rd * 128) (M + rd * 128 + rs1 * 32768) _ HS.out 0 5 15 15 5 (Or.inr (Or.inl ⟨rfl, rfl, rfl, rfl, rfl⟩)) rs1 (by omega) V1.out).mono ?_
  clear c0 c1 c2 c3 c4 c5 cw fz sz HS
  rintro e w3 ⟨rfl, hs⟩
  have HS := Lib.hid hs
  obtain ⟨hb, c0, c1, c2, c3, c4, c5, cw, fz, sz⟩ := hs
  clear hb
  go_wp2_with fail
  refine (put_s w op rd rs1 rs2 0 0 (M + rd * 128 + rs1 * 32768) (M + rd * 128 + rs1 * 32768 + rs2 * 1048576) _ HS.out 0 5 20 20 5 (Or.inr (Or.inr (Or.inl ⟨rfl, rfl, rfl, rfl, rfl⟩))) rs2 (by omega) V2.out).mono ?_
  clear c0 c1 c2 c3 c4 c5 cw fz sz HS
  rintro e w4 ⟨rfl, hs⟩
  have HS := Lib.hid hs
  obtain ⟨hb, c0, c1, c2, c3, c4, c5, cw, fz, sz⟩ := hs
  clear hb
  go_wp2_with fail
  refine (put_s w op rd rs1 rs2 0 0 (M + rd * 128 + rs1 * 32768 + rs2 * 1048576) (M + rd * 128 + rs1 * 32768 + rs2 * 1048576) _ HS.out 0 12 20 20 12 (Or.inr (Or.inr (Or.inr (Or.inl ⟨rfl, rfl, rfl, rfl, rfl⟩)))) 0 (by omega) V3.out).mono ?_
  clear c0 c1 c2 c3 c4 c5 cw fz sz HS
  rintro e w5 ⟨rfl, hs⟩
  have HS := Lib.hid hs
  obtain ⟨hb, c0, c1, c2, c3, c4, c5, cw, fz, sz⟩ := hs
  clear hb
  go_wp2
  go_ret2
  exact ⟨rfl, HS.out.bel⟩
set_option maxHeartbeats 8000000 in
set_option maxRecDepth 100000 in
theorem enc_f7 (op rd rs1 imm M : Int) (hrd : 0 ≤ rd ∧ rd ≤ 31) (hrs1 : 0 ≤ rs1 ∧ rs1 ≤ 31) (himm : 0 ≤ imm ∧ imm ≤ 4294967295) (hM : MatOk 7 M) (w : World)
    (HM : Hid (∀ v, Below w.heap.size w v → Calls Tryd.prog 23 #[.int .i64 op] v fun e w' => e = .returned (.tuple #[.int .u32 M, .int .i64 0]) ∧ v = w'))
    (HR : Hid (∀ v, Below w.heap.size w v → Calls Tryd.prog 44 #[.agg #[.int .i64 op, .int .i64 rd, .int .i64 rs1, .int .i64 0, .int .u32 imm, .int .i64 0]] v fun e w' => e = .returned (.bool true) ∧ Below v.heap.size v w'))
    (HF : Hid (∀ v, Below w.heap.size w v → Calls Tryd.prog 53 #[.int .i64 op] v fun e w' => e = .returned (.tuple #[.int .i64 7, .int .i64 0]) ∧ v = w')) :
    Calls Tryd.prog 22 #[.agg #[.int .i64 op, .int .i64 rd, .int .i64 rs1, .int .i64 0, .int .u32 imm, .int .i64 0]] w fun e w' => e = .returned (.tuple #[.int .u32 (M + rd * 128 + rs1 * 32768 + imm % 32 * 1048576), .int .i64 0]) ∧ Below w.heap.size w w' := by
  obtain ⟨m0, m1, m2, m3, m4⟩ := hM
  obtain ⟨m5, m6, m7⟩ := m2 (by decide)
  clear m2 m3 m4
  have r0 : 0 ≤ imm % 32 ∧ imm % 32 < 32 := by omega
  have v0 : bits .or .u32 (M) (rd / 2 ^ (0 : Int).toNat % 2 ^ 5 * 2 ^ 7) = M + rd * 128 := by
    rw [orm (M) rd _ 5 7 ⟨by generalize imm % 32 = y0 at *; omega, by generalize imm % 32 = y0 at *; omega⟩ (by decide) (by simp only [Nat.reduceAdd, Int.reducePow]; generalize imm % 32 = y0 at *; omega)]
    simp only [Int.reduceToNat, Int.reducePow]
    try omega
  have V0 := Lib.hid v0
  clear v0
  have v1 : bits .or .u32 (M + rd * 128) (rs1 / 2 ^ (0 : Int).toNat % 2 ^ 5 * 2 ^ 15) = M + rd * 128 + rs1 * 32768 := by
    rw [orm (M + rd * 128) rs1 _ 5 15 ⟨by generalize imm % 32 = y0 at *; omega, by generalize imm % 32 = y0 at *; omega⟩ (by decide) (by simp only [Nat.reduceAdd, Int.reducePow]; generalize imm % 32 = y0 at *; omega)]
    simp only [Int.reduceToNat, Int.reducePow]
    try omega
  have V1 := Lib.hid v1
  clear v1
  have v2 : bits .or .u32 (M + rd * 128 + rs1 * 32768) ((0 : Int) / 2 ^ (0 : Int).toNat % 2 ^ 5 * 2 ^ 20) = M + rd * 128 + rs1 * 32768 := or0 _ ⟨by omega, by omega⟩ _ _ _
  have V2 := Lib.hid v2
  clear v2
  have v3 : bits .or .u32 (M + rd * 128 + rs1 * 32768) ((0 : Int) / 2 ^ (0 : Int).toNat % 2 ^ 12 * 2 ^ 20) = M + rd * 128 + rs1 * 32768 := or0 _ ⟨by omega, by omega⟩ _ _ _
  have V3 := Lib.hid v3
  clear v3
  have v4 : bits .or .u32 (M + rd * 128 + rs1 * 32768) (imm / 2 ^ (0 : Int).toNat % 2 ^ 5 * 2 ^ 20) = M + rd * 128 + rs1 * 32768 + imm % 32 * 1048576 := by
    rw [orm (M + rd * 128 + rs1 * 32768) imm _ 5 20 ⟨by generalize imm % 32 = y0 at *; omega, by generalize imm % 32 = y0 at *; omega⟩ (by decide) (by simp only [Nat.reduceAdd, Int.reducePow]; generalize imm % 32 = y0 at *; omega)]
    simp only [Int.reduceToNat, Int.reducePow]
    try omega
  have V4 := Lib.hid v4
  clear v4
  have hbw := bal (bal (Below.refl w.heap.size w) (.cells #[.int .i64 op, .int .i64 rd, .int .i64 rs1, .int .i64 0, .int .u32 imm, .int .i64 0] 24)) (.cells #[.int .u32 M] 22)
  have hbx := bal (Below.refl w.heap.size w) (.cells #[.int .i64 op, .int .i64 rd, .int .i64 rs1, .int .i64 0, .int .u32 imm, .int .i64 0] 24)
  have HBW := Lib.hid hbw
  have HBX := Lib.hid hbx
  have hm := emhf
  clear hbw hbx m0 m1 m5 m6 m7 r0
  go_enter Tryd.func22, Tryd.ntmps22
  go_wp2_with fail
  refine (HM.out _ HBX.out).mono ?_
  rintro e w' ⟨rfl, rfl⟩
  go_wp2_with fail
  refine (HR.out _ HBW.out).mono ?_
  rintro e w1 ⟨rfl, hb1⟩
  have hs : EncAt w op rd rs1 0 imm 0 M w1 := by
    have hc := (bcf hb1).1
    have hf := (bcf hb1).2
    have hz := hb1.size
    simp only [World.size_alloc] at hz
    exact ⟨bthen HBW.out hb1, by rw [hc _ _ (by simp; omega)]; simp [go_sem], by rw [hc _ _ (by simp; omega)]; simp [go_sem], by rw [hc _ _ (by simp; omega)]; simp [go_sem], by rw [hc _ _ (by simp; omega)]; simp [go_sem], by rw [hc _ _ (by simp; omega)]; simp [go_sem], by rw [hc _ _ (by simp; omega)]; simp [go_sem], by rw [hc _ _ (by simp)]; simp [go_sem], by rw [hf _ _ (by simp)]; simp [go_sem], by omega⟩
  clear hb1
  have HS := Lib.hid hs
  obtain ⟨hb, c0, c1, c2, c3, c4, c5, cw, fz, sz⟩ := hs
  clear hb
  go_wp2_with fail
  refine (HF.out _ HS.out.bel).mono ?_
  rintro e w' ⟨rfl, rfl⟩
  go_wp2_with fail
  refine (put_s w op rd rs1 0 imm 0 (M) (M + rd * 128) _ HS.out 0 5 7 7 5 (Or.inl ⟨rfl, rfl, rfl, rfl, rfl⟩) rd (by omega) V0.out).mono ?_
  clear c0 c1 c2 c3 c4 c5 cw fz sz HS
  rintro e w2 ⟨rfl, hs⟩
  have HS := Lib.hid hs
  obtain ⟨hb, c0, c1, c2, c3, c4, c5, cw, fz, sz⟩ := hs
  clear hb
  go_wp2_with fail
  refine (put_s w op rd rs1 0 imm 0 (M + rd * 128) (M + rd * 128 + rs1 * 32768) _ HS.out 0 5 15 15 5 (Or.inr (Or.inl ⟨rfl, rfl, rfl, rfl, rfl⟩)) rs1 (by omega) V1.out).mono ?_
  clear c0 c1 c2 c3 c4 c5 cw fz sz HS
  rintro e w3 ⟨rfl, hs⟩
  have HS := Lib.hid hs
  obtain ⟨hb, c0, c1, c2, c3, c4, c5, cw, fz, sz⟩ := hs
  clear hb
  go_wp2_with fail
  refine (put_s w op rd rs1 0 imm 0 (M + rd * 128 + rs1 * 32768) (M + rd * 128 + rs1 * 32768) _ HS.out 0 5 20 20 5 (Or.inr (Or.inr (Or.inl ⟨rfl, rfl, rfl, rfl, rfl⟩))) 0 (by omega) V2.out).mono ?_
  clear c0 c1 c2 c3 c4 c5 cw fz sz HS
  rintro e w4 ⟨rfl, hs⟩
  have HS := Lib.hid hs
  obtain ⟨hb, c0, c1, c2, c3, c4, c5, cw, fz, sz⟩ := hs
  clear hb
  go_wp2_with fail
  refine (put_s w op rd rs1 0 imm 0 (M + rd * 128 + rs1 * 32768) (M + rd * 128 + rs1 * 32768) _ HS.out 0 12 20 20 12 (Or.inr (Or.inr (Or.inr (Or.inl ⟨rfl, rfl, rfl, rfl, rfl⟩)))) 0 (by omega) V3.out).mono ?_
  clear c0 c1 c2 c3 c4 c5 cw fz sz HS
  rintro e w5 ⟨rfl, hs⟩
  have HS := Lib.hid hs
  obtain ⟨hb, c0, c1, c2, c3, c4, c5, cw, fz, sz⟩ := hs
  clear hb
  go_wp2_with fail
  refine (put_s w op rd rs1 0 imm 0 (M + rd * 128 + rs1 * 32768) (M + rd * 128 + rs1 * 32768 + imm % 32 * 1048576) _ HS.out 0 5 20 20 5 (Or.inr (Or.inr (Or.inl ⟨rfl, rfl, rfl, rfl, rfl⟩))) imm (by omega) V4.out).mono ?_
  clear c0 c1 c2 c3 c4 c5 cw fz sz HS
  rintro e w6 ⟨rfl, hs⟩
  have HS := Lib.hid hs
  obtain ⟨hb, c0, c1, c2, c3, c4, c5, cw, fz, sz⟩ := hs
  clear hb
  go_wp2
  go_ret2
  exact ⟨rfl, HS.out.bel⟩
set_option maxHeartbeats 8000000 in
set_option maxRecDepth 100000 in
theorem enc_f8 (op rd rs1 csr M : Int) (hrd : 0 ≤ rd ∧ rd ≤ 31) (hrs1 : 0 ≤ rs1 ∧ rs1 ≤ 31) (hcsr : 0 ≤ csr ∧ csr ≤ 4095) (hM : MatOk 8 M) (w : World)
    (HM : Hid (∀ v, Below w.heap.size w v → Calls Tryd.prog 23 #[.int .i64 op] v fun e w' => e = .returned (.tuple #[.int .u32 M, .int .i64 0]) ∧ v = w'))
    (HR : Hid (∀ v, Below w.heap.size w v → Calls Tryd.prog 44 #[.agg #[.int .i64 op, .int .i64 rd, .int .i64 rs1, .int .i64 0, .int .u32 0, .int .i64 csr]] v fun e w' => e = .returned (.bool true) ∧ Below v.heap.size v w'))
    (HF : Hid (∀ v, Below w.heap.size w v → Calls Tryd.prog 53 #[.int .i64 op] v fun e w' => e = .returned (.tuple #[.int .i64 8, .int .i64 0]) ∧ v = w')) :
    Calls Tryd.prog 22 #[.agg #[.int .i64 op, .int .i64 rd, .int .i64 rs1, .int .i64 0, .int .u32 0, .int .i64 csr]] w fun e w' => e = .returned (.tuple #[.int .u32 (M + rd * 128 + rs1 * 32768 + csr * 1048576), .int .i64 0]) ∧ Below w.heap.size w w' := by
  obtain ⟨m0, m1, m2, m3, m4⟩ := hM
  obtain ⟨m5, m6, m7⟩ := m2 (by decide)
  have m8 := m3 (by decide)
  clear m2 m3 m4
  have v0 : bits .or .u32 (M) (rd / 2 ^ (0 : Int).toNat % 2 ^ 5 * 2 ^ 7) = M + rd * 128 := by
    rw [orm (M) rd _ 5 7 ⟨by omega, by omega⟩ (by decide) (by simp only [Nat.reduceAdd, Int.reducePow]; omega)]
    simp only [Int.reduceToNat, Int.reducePow]
    try omega
  have V0 := Lib.hid v0
  clear v0
  have v1 : bits .or .u32 (M + rd * 128) (rs1 / 2 ^ (0 : Int).toNat % 2 ^ 5 * 2 ^ 15) = M + rd * 128 + rs1 * 32768 := by
    rw [orm (M + rd * 128) rs1 _ 5 15 ⟨by omega, by omega⟩ (by decide) (by simp only [Nat.reduceAdd, Int.reducePow]; omega)]
    simp only [Int.reduceToNat, Int.reducePow]
    try omega
  have V1 := Lib.hid v1
  clear v1
  have v2 : bits .or .u32 (M + rd * 128 + rs1 * 32768) ((0 : Int) / 2 ^ (0 : Int).toNat % 2 ^ 5 * 2 ^ 20) = M + rd * 128 + rs1 * 32768 := or0 _ ⟨by omega, by omega⟩ _ _ _
  have V2 := Lib.hid v2
  clear v2
  have v3 : bits .or .u32 (M + rd * 128 + rs1 * 32768) (csr / 2 ^ (0 : Int).toNat % 2 ^ 12 * 2 ^ 20) = M + rd * 128 + rs1 * 32768 + csr * 1048576 := by
    rw [orm (M + rd * 128 + rs1 * 32768) csr _ 12 20 ⟨by omega, by omega⟩ (by decide) (by simp only [Nat.reduceAdd, Int.reducePow]; omega)]
    simp only [Int.reduceToNat, Int.reducePow]
    try omega
  have V3 := Lib.hid v3
  clear v3
  have hbw := bal (bal (Below.refl w.heap.size w) (.cells #[.int .i64 op, .int .i64 rd, .int .i64 rs1, .int .i64 0, .int .u32 0, .int .i64 csr] 24)) (.cells #[.int .u32 M] 22)
  have hbx := bal (Below.refl w.heap.size w) (.cells #[.int .i64 op, .int .i64 rd, .int .i64 rs1, .int .i64 0, .int .u32 0, .int .i64 csr] 24)
  have HBW := Lib.hid hbw
  have HBX := Lib.hid hbx
  have hm := emhf
  clear hbw hbx m0 m1 m5 m6 m7 m8
  go_enter Tryd.func22, Tryd.ntmps22
  go_wp2_with fail
  refine (HM.out _ HBX.out).mono ?_
  rintro e w' ⟨rfl, rfl⟩
  go_wp2_with fail
  refine (HR.out _ HBW.out).mono ?_
  rintro e w1 ⟨rfl, hb1⟩
  have hs : EncAt w op rd rs1 0 0 csr M w1 := by
    have hc := (bcf hb1).1
    have hf := (bcf hb1).2
    have hz := hb1.size
    simp only [World.size_alloc] at hz
    exact ⟨bthen HBW.out hb1, by rw [hc _ _ (by simp; omega)]; simp [go_sem], by rw [hc _ _ (by simp; omega)]; simp [go_sem], by rw [hc _ _ (by simp; omega)]; simp [go_sem], by rw [hc _ _ (by simp; omega)]; simp [go_sem], by rw [hc _ _ (by simp; omega)]; simp [go_sem], by rw [hc _ _ (by simp; omega)]; simp [go_sem], by rw [hc _ _ (by simp)]; simp [go_sem], by rw [hf _ _ (by simp)]; simp [go_sem], by omega⟩
  clear hb1
  have HS := Lib.hid hs
  obtain ⟨hb, c0, c1, c2, c3, c4, c5, cw, fz, sz⟩ := hs
  clear hb
  go_wp2_with fail
  refine (HF.out _ HS.out.bel).mono ?_
  rintro e w' ⟨rfl, rfl⟩
  go_wp2_with fail
  refine (put_s w op rd rs1 0 0 csr (M) (M + rd * 128) _ HS.out 0 5 7 7 5 (Or.inl ⟨rfl, rfl, rfl, rfl, rfl⟩) rd (by omega) V0.out).mono ?_
  clear c0 c1 c2 c3 c4 c5 cw fz sz HS
  rintro e w2 ⟨rfl, hs⟩
  have HS := Lib.hid hs
  obtain ⟨hb, c0, c1, c2, c3, c4, c5, cw, fz, sz⟩ := hs
  clear hb
  go_wp2_with fail
  refine (put_s w op rd rs1 0 0 csr (M + rd * 128) (M + rd * 128 + rs1 * 32768) _ HS.out 0 5 15 15 5 (Or.inr (Or.inl ⟨rfl, rfl, rfl, rfl, rfl⟩)) rs1 (by omega) V1.out).mono ?_
  clear c0 c1 c2 c3 c4 c5 cw fz sz HS
  rintro e w3 ⟨rfl, hs⟩
  have HS := Lib.hid hs
  obtain ⟨hb, c0, c1, c2, c3, c4, c5, cw, fz, sz⟩ := hs
  clear hb
  go_wp2_with fail
  refine (put_s w op rd rs1 0 0 csr (M + rd * 128 + rs1 * 32768) (M + rd * 128 + rs1 * 32768) _ HS.out 0 5 20 20 5 (Or.inr (Or.inr (Or.inl ⟨rfl, rfl, rfl, rfl, rfl⟩))) 0 (by omega) V2.out).mono ?_
  clear c0 c1 c2 c3 c4 c5 cw fz sz HS
  rintro e w4 ⟨rfl, hs⟩
  have HS := Lib.hid hs
  obtain ⟨hb, c0, c1, c2, c3, c4, c5, cw, fz, sz⟩ := hs
  clear hb
  go_wp2_with fail
  refine (put_s w op rd rs1 0 0 csr (M + rd * 128 + rs1 * 32768) (M + rd * 128 + rs1 * 32768 + csr * 1048576) _ HS.out 0 12 20 20 12 (Or.inr (Or.inr (Or.inr (Or.inl ⟨rfl, rfl, rfl, rfl, rfl⟩)))) csr (by omega) V3.out).mono ?_
  clear c0 c1 c2 c3 c4 c5 cw fz sz HS
  rintro e w5 ⟨rfl, hs⟩
  have HS := Lib.hid hs
  obtain ⟨hb, c0, c1, c2, c3, c4, c5, cw, fz, sz⟩ := hs
  clear hb
  go_wp2
  go_ret2
  exact ⟨rfl, HS.out.bel⟩
set_option maxHeartbeats 8000000 in
set_option maxRecDepth 100000 in
theorem enc_f9 (op rd imm csr M : Int) (hrd : 0 ≤ rd ∧ rd ≤ 31) (hcsr : 0 ≤ csr ∧ csr ≤ 4095) (himm : 0 ≤ imm ∧ imm ≤ 4294967295) (hM : MatOk 9 M) (w : World)
    (HM : Hid (∀ v, Below w.heap.size w v → Calls Tryd.prog 23 #[.int .i64 op] v fun e w' => e = .returned (.tuple #[.int .u32 M, .int .i64 0]) ∧ v = w'))
    (HR : Hid (∀ v, Below w.heap.size w v → Calls Tryd.prog 44 #[.agg #[.int .i64 op, .int .i64 rd, .int .i64 0, .int .i64 0, .int .u32 imm, .int .i64 csr]] v fun e w' => e = .returned (.bool true) ∧ Below v.heap.size v w'))
    (HF : Hid (∀ v, Below w.heap.size w v → Calls Tryd.prog 53 #[.int .i64 op] v fun e w' => e = .returned (.tuple #[.int .i64 9, .int .i64 0]) ∧ v = w')) :
    Calls Tryd.prog 22 #[.agg #[.int .i64 op, .int .i64 rd, .int .i64 0, .int .i64 0, .int .u32 imm, .int .i64 csr]] w fun e w' => e = .returned (.tuple #[.int .u32 (M + rd * 128 + csr * 1048576 + imm % 32 * 32768), .int .i64 0]) ∧ Below w.heap.size w w' := by
  obtain ⟨m0, m1, m2, m3, m4⟩ := hM
  obtain ⟨m5, m6, m7⟩ := m2 (by decide)
  have m8 := m3 (by decide)
  clear m2 m3 m4
  have r0 : 0 ≤ imm % 32 ∧ imm % 32 < 32 := by omega
  have v0 : bits .or .u32 (M) (rd / 2 ^ (0 : Int).toNat % 2 ^ 5 * 2 ^ 7) = M + rd * 128 := by
    rw [orm (M) rd _ 5 7 ⟨by generalize imm % 32 = y0 at *; omega, by generalize imm % 32 = y0 at *; omega⟩ (by decide) (by simp only [Nat.reduceAdd, Int.reducePow]; generalize imm % 32 = y0 at *; omega)]
    simp only [Int.reduceToNat, Int.reducePow]
    try omega
  have V0 := Lib.hid v0
  clear v0
  have v1 : bits .or .u32 (M + rd * 128) ((0 : Int) / 2 ^ (0 : Int).toNat % 2 ^ 5 * 2 ^ 15) = M + rd * 128 := or0 _ ⟨by omega, by omega⟩ _ _ _
  have V1 := Lib.hid v1
  clear v1
  have v2 : bits .or .u32 (M + rd * 128) ((0 : Int) / 2 ^ (0 : Int).toNat % 2 ^ 5 * 2 ^ 20) = M + rd * 128 := or0 _ ⟨by omega, by omega⟩ _ _ _
  have V2 := Lib.hid v2
  clear v2
  have v3 : bits .or .u32 (M + rd * 128) (csr / 2 ^ (0 : Int).toNat % 2 ^ 12 * 2 ^ 20) = M + rd * 128 + csr * 1048576 := by
    rw [orm (M + rd * 128) csr _ 12 20 ⟨by generalize imm % 32 = y0 at *; omega, by generalize imm % 32 = y0 at *; omega⟩ (by decide) (by simp only [Nat.reduceAdd, Int.reducePow]; generalize imm % 32 = y0 at *; omega)]
    simp only [Int.reduceToNat, Int.reducePow]
    try omega
  have V3 := Lib.hid v3
  clear v3
  have v4 : bits .or .u32 (M + rd * 128 + csr * 1048576) (imm / 2 ^ (0 : Int).toNat % 2 ^ 5 * 2 ^ 15) = M + rd * 128 + csr * 1048576 + imm % 32 * 32768 := by
    rw [orm (M + rd * 128 + csr * 1048576) imm _ 5 15 ⟨by generalize imm % 32 = y0 at *; omega, by generalize imm % 32 = y0 at *; omega⟩ (by decide) (by simp only [Nat.reduceAdd, Int.reducePow]; generalize imm % 32 = y0 at *; omega)]
    simp only [Int.reduceToNat, Int.reducePow]
    try omega
  have V4 := Lib.hid v4
  clear v4
  have hbw := bal (bal (Below.refl w.heap.size w) (.cells #[.int .i64 op, .int .i64 rd, .int .i64 0, .int .i64 0, .int .u32 imm, .int .i64 csr] 24)) (.cells #[.int .u32 M] 22)
  have hbx := bal (Below.refl w.heap.size w) (.cells #[.int .i64 op, .int .i64 rd, .int .i64 0, .int .i64 0, .int .u32 imm, .int .i64 csr] 24)
  have HBW := Lib.hid hbw
  have HBX := Lib.hid hbx
  have hm := emhf
  clear hbw hbx m0 m1 m5 m6 m7 m8 r0
  go_enter Tryd.func22, Tryd.ntmps22
  go_wp2_with fail
  refine (HM.out _ HBX.out).mono ?_
  rintro e w' ⟨rfl, rfl⟩
  go_wp2_with fail
  refine (HR.out _ HBW.out).mono ?_
  rintro e w1 ⟨rfl, hb1⟩
  have hs : EncAt w op rd 0 0 imm csr M w1 := by
    have hc := (bcf hb1).1
    have hf := (bcf hb1).2
    have hz := hb1.size
    simp only [World.size_alloc] at hz
    exact ⟨bthen HBW.out hb1, by rw [hc _ _ (by simp; omega)]; simp [go_sem], by rw [hc _ _ (by simp; omega)]; simp [go_sem], by rw [hc _ _ (by simp; omega)]; simp [go_sem], by rw [hc _ _ (by simp; omega)]; simp [go_sem], by rw [hc _ _ (by simp; omega)]; simp [go_sem], by rw [hc _ _ (by simp; omega)]; simp [go_sem], by rw [hc _ _ (by simp)]; simp [go_sem], by rw [hf _ _ (by simp)]; simp [go_sem], by omega⟩
  clear hb1
  have HS := Lib.hid hs
  obtain ⟨hb, c0, c1, c2, c3, c4, c5, cw, fz, sz⟩ := hs
  clear hb
  go_wp2_with fail
  refine (HF.out _ HS.out.bel).mono ?_
  rintro e w' ⟨rfl, rfl⟩
  go_wp2_with fail
  refine (put_s w op rd 0 0 imm csr (M) (M + rd * 128) _ HS.out 0 5 7 7 5 (Or.inl ⟨rfl, rfl, rfl, rfl, rfl⟩) rd (by omega) V0.out).mono ?_
  clear c0 c1 c2 c3 c4 c5 cw fz sz HS
  rintro e w2 ⟨rfl, hs⟩
  have HS := Lib.hid hs
  obtain ⟨hb, c0, c1, c2, c3, c4, c5, cw, fz, sz⟩ := hs
  clear hb
  go_wp2_with fail
  refine (put_s w op rd 0 0 imm csr (M + rd * 128) (M + rd * 128) _ HS.out 0 5 15 15 5 (Or.inr (Or.inl ⟨rfl, rfl, rfl, rfl, rfl⟩)) 0 (by omega) V1.out).mono ?_
  clear c0 c1 c2 c3 c4 c5 cw fz sz HS
  rintro e w3 ⟨rfl, hs⟩
  have HS := Lib.hid hs
  obtain ⟨hb, c0, c1, c2, c3, c4, c5, cw, fz, sz⟩ := hs
  clear hb
  go_wp2_with fail
  refine (put_s w op rd 0 0 imm csr (M + rd * 128) (M + rd * 128) _ HS.out 0 5 20 20 5 (Or.inr (Or.inr (Or.inl ⟨rfl, rfl, rfl, rfl, rfl⟩))) 0 (by omega) V2.out).mono ?_
  clear c0 c1 c2 c3 c4 c5 cw fz sz HS
  rintro e w4 ⟨rfl, hs⟩
  have HS := Lib.hid hs
  obtain ⟨hb, c0, c1, c2, c3, c4, c5, cw, fz, sz⟩ := hs
  clear hb
  go_wp2_with fail
  refine (put_s w op rd 0 0 imm csr (M + rd * 128) (M + rd * 128 + csr * 1048576) _ HS.out 0 12 20 20 12 (Or.inr (Or.inr (Or.inr (Or.inl ⟨rfl, rfl, rfl, rfl, rfl⟩)))) csr (by omega) V3.out).mono ?_
  clear c0 c1 c2 c3 c4 c5 cw fz sz HS
  rintro e w5 ⟨rfl, hs⟩
  have HS := Lib.hid hs
  obtain ⟨hb, c0, c1, c2, c3, c4, c5, cw, fz, sz⟩ := hs
  clear hb
  go_wp2_with fail
  refine (put_s w op rd 0 0 imm csr (M + rd * 128 + csr * 1048576) (M + rd * 128 + csr * 1048576 + imm % 32 * 32768) _ HS.out 0 5 15 15 5 (Or.inr (Or.inl ⟨rfl, rfl, rfl, rfl, rfl⟩)) imm (by omega) V4.out).mono ?_
  clear c0 c1 c2 c3 c4 c5 cw fz sz HS
  rintro e w6 ⟨rfl, hs⟩
  have HS := Lib.hid hs
  obtain ⟨hb, c0, c1, c2, c3, c4, c5, cw, fz, sz⟩ := hs
  clear hb
  go_wp2
  go_ret2
  exact ⟨rfl, HS.out.bel⟩
end Go.Proofs.YtnooikjkjcflbabDoor
