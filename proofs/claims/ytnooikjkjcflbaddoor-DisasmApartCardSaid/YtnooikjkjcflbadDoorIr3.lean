/- Contracts of the references' Power, Signed, signed, reg and Right of layers 1 and 2. Conditions: words are words; powers are at most 32. -/
import Derived.Test.YtnooikjkjcflbadDoorIr2
namespace Go.Proofs.YtnooikjkjcflbadDoor
open Go.RowKit
set_option linter.unusedVariables false
set_option linter.unusedSimpArgs false

theorem pow_le32 (n : Nat) (h : n ≤ 32) : 2 ^ n ≤ 4294967296 := Nat.pow_le_pow_right (by decide) h
def powV (n : Int) : Int := ((2 ^ n.toNat : Nat) : Int)
theorem pow_step (k : Nat) (h : k < 32) : IntKind.u64.wrap (powV k * 2) = powV ((k + 1 : Nat) : Int) := by
  have hp := pow_le32 k (by omega)
  unfold powV
  rw [Int.toNat_natCast, Int.toNat_natCast, Nat.pow_succ, IntKind.wrap_u64]
  generalize 2 ^ k = z at *
  omega
theorem power_c (n : Int) (h : n ≤ 32) (w : World) : Calls Tryd.prog 93 #[.int .i64 n] w fun e w' => e = .returned (.int .u64 (powV n)) ∧ w = w' := by
  go_enter Tryd.func93, Tryd.ntmps93
  go_wp2
  go_loop [3, 4] (fun x i => ∃ k : Nat, ((k : Int) ≤ n ∨ k = 0) ∧ i = .int .i64 k ∧ x = .int .u64 (powV k)) (fun _ i => (n - intOf i).toNat)
  case atStart => exact ⟨0, .inr rfl, rfl, rfl⟩
  case round =>
    obtain ⟨k, hk, rfl, rfl⟩ := hrel
    by_cases hlt : (k : Int) < n
    · have hs := pow_step k (by omega)
      clear hk
      go_wp2
      go_round
      case rel => exact ⟨k + 1, .inl (by omega), by go_num, rfl⟩
      case measure => simp [intOf]; omega
    · have he := Lib.hid (show powV k = powV n from by unfold powV; rw [show ((k : Int)).toNat = n.toNat by omega])
      clear hk
      go_wp2
      go_ret
      exact ⟨by rw [← he.out]; rfl, rfl⟩
theorem sgnw_c (a : Int) (h : 0 ≤ a ∧ a ≤ 4294967295) (w : World) : Calls Tryd.prog 53 #[.int .u32 a] w fun e w' => e = .returned (.int .i64 (wrap32 a)) ∧ w = w' := by
  by_cases k : 2147483648 ≤ a
  all_goals
    go_enter Tryd.func53, Tryd.ntmps53
    go_wp2
    go_ret
    refine ⟨ret_i64 ?_, rfl⟩
    unfold wrap32
    first | omega | (simp; omega)
theorem tmod2 (y : Int) : y.tmod 2 = 0 ↔ y % 2 = 0 := by
  by_cases h : 0 ≤ y
  · rw [Int.tmod_eq_emod_of_nonneg h]
  · rw [show y = -(-y) by omega, Int.neg_tmod, Int.tmod_eq_emod_of_nonneg (by omega)]; omega
theorem tmod2b (x : Int) : ((wrap32 x).tmod 2 == 0) = decide (x % 2 = 0) := by
  rw [Bool.eq_iff_iff, beq_iff_eq, tmod2, decide_eq_true_iff]; unfold wrap32; omega
def rsigB (x width unit : Int) : Bool := sgnB width x && (unit == 1 || decide (x % 2 = 0))
theorem rsig_c (x : Int) (h : 0 ≤ x ∧ x ≤ 4294967295) (width unit : Int) (hw : width = 12 ∨ width = 13 ∨ width = 21) (hu : unit = 1 ∨ unit = 2) (w : World) : Calls Tryd.prog 75 #[.int .u32 x, .int .i64 width, .int .i64 unit] w fun e w' => e = .returned (.bool (rsigB x width unit)) ∧ w = w' := by
  have hx : -2147483648 ≤ wrap32 x ∧ wrap32 x ≤ 2147483647 := by unfold wrap32; omega
  have hp : powV 11 = 2048 ∧ powV 12 = 4096 ∧ powV 20 = 1048576 := by decide
  obtain ⟨p1, p2, p3⟩ := hp
  have p4 := tmod2b x
  rcases hw with rfl | rfl | rfl <;> rcases hu with rfl | rfl
  all_goals
    go_enter Tryd.func75, Tryd.ntmps75
    go_wp2_with (first | (go_at_call 53; refine (sgnw_c x h _).mono ?_; rintro e w' ⟨rfl, rfl⟩) | (go_at_call 93; refine (power_c _ (by decide) _).mono ?_; rintro e w' ⟨rfl, rfl⟩))
    all_goals
      go_ret
      refine ⟨ret_b ?_, rfl⟩
      simp [rsigB, sgnB, *]
      try omega
def rregB (n : Int) (named : Bool) : Bool := decide (0 ≤ n) && (decide (n ≤ 31) && (named || n == 0))
theorem rreg_c (n : Int) (named : Bool) (w : World) : Calls Tryd.prog 74 #[.int .i64 n, .bool named] w fun e w' => e = .returned (.bool (rregB n named)) ∧ w = w' := by
  unfold rregB
  by_cases h : 0 ≤ n <;> by_cases k : n ≤ 31 <;> cases named
  all_goals
    go_enter Tryd.func74, Tryd.ntmps74
    go_wp2
    all_goals
      go_ret
      refine ⟨ret_b ?_, rfl⟩
      simp [h, k]
      try omega
def rimmB (f x : Int) : Bool := if f = 1 then decide (x % 4096 = 0) else if f = 2 then rsigB x 21 2 else if f = 3 ∨ f = 5 then rsigB x 12 1 else if f = 4 then rsigB x 13 2 else if f = 7 ∨ f = 9 then decide (x < 32) else decide (x = 0)
def rrightB (op rd rs1 rs2 imm csr : Int) : Bool :=
  let f := rformV op
  hasB op && (rregB rd (decide (f ≠ 0 ∧ f ≠ 4 ∧ f ≠ 5)) && (rregB rs1 (decide (3 ≤ f ∧ f ≤ 8)) && (rregB rs2 (decide (4 ≤ f ∧ f ≤ 6)) && (decide (0 ≤ csr) && (decide (csr ≤ 4095) && ((decide (8 ≤ f) || csr == 0) && rimmB f imm))))))
theorem rform_rng (op : Int) : 0 ≤ rformV op ∧ rformV op ≤ 9 := by
  unfold rformV
  repeat' split
  all_goals omega
set_option maxHeartbeats 8000000 in
set_option maxRecDepth 100000 in
theorem rright_c (op rd rs1 rs2 imm csr : Int) (hi : 0 ≤ imm ∧ imm ≤ 4294967295) (w : World) : Calls Tryd.prog 51 #[.agg #[.int .i64 op, .int .i64 rd, .int .i64 rs1, .int .i64 rs2, .int .u32 imm, .int .i64 csr]] w fun e w' =>
    e = .returned (.bool (rrightB op rd rs1 rs2 imm csr)) ∧ Below w.heap.size w w' := by
  have hr := rform_rng op
  rcases Bool.eq_false_or_eq_true (hasB op) with h | h
  · obtain ⟨h0, h1⟩ := has_t h
    have hv : rrightB op rd rs1 rs2 imm csr = (rregB rd (decide (rformV op ≠ 0 ∧ rformV op ≠ 4 ∧ rformV op ≠ 5)) && (rregB rs1 (decide (3 ≤ rformV op ∧ rformV op ≤ 8)) && (rregB rs2 (decide (4 ≤ rformV op ∧ rformV op ≤ 6)) && (decide (0 ≤ csr) && (decide (csr ≤ 4095) && ((decide (8 ≤ rformV op) || csr == 0) && rimmB (rformV op) imm)))))) := by simp [rrightB, h]
    rw [hv]
    clear hv
    have hfc := rform_c op
    generalize rformV op = f at *
    have HFC := Lib.hid hfc
    clear hfc h
    rcases (by omega : f = 0 ∨ f = 1 ∨ f = 2 ∨ f = 3 ∨ f = 4 ∨ f = 5 ∨ f = 6 ∨ f = 7 ∨ f = 8 ∨ f = 9) with rfl | rfl | rfl | rfl | rfl | rfl | rfl | rfl | rfl | rfl
    all_goals
      go_enter Tryd.func51, Tryd.ntmps51
      go_wp2_with (first | (go_at_call 54; refine (HFC.out _).mono ?_; rintro e w' ⟨rfl, rfl⟩) | (go_at_call_of 74 (Value.int IntKind.i64 rd); refine (rreg_c rd _ _).mono ?_; rintro e w' ⟨rfl, rfl⟩) | (go_at_call_of 74 (Value.int IntKind.i64 rs1); refine (rreg_c rs1 _ _).mono ?_; rintro e w' ⟨rfl, rfl⟩) | (go_at_call_of 74 (Value.int IntKind.i64 rs2); refine (rreg_c rs2 _ _).mono ?_; rintro e w' ⟨rfl, rfl⟩) | (go_at_call 75; refine (rsig_c imm hi _ _ (by decide) (by decide) _).mono ?_; rintro e w' ⟨rfl, rfl⟩))
      all_goals
        go_ret
        refine ⟨ret_b ?_, by repeat (first | exact Below.refl _ _ | refine bal ?_ _ | (refine bset ?_ (by simp <;> omega) _) | refine bdn ?_ _)⟩
        first | (simp [*, rimmB]; done) | (simp_all [rimmB]; done) | (clear HFC; simp only [rimmB] at *; grind)
  · have hv : rrightB op rd rs1 rs2 imm csr = false := by simp [rrightB, h]
    have h2 := has_f h
    rw [hv]
    clear hr h hv
    rcases h2 with h2 | h2
    all_goals
      go_enter Tryd.func51, Tryd.ntmps51
      go_wp2
      go_ret
      exact ⟨by simp, bal (Below.refl _ _) _⟩
end Go.Proofs.YtnooikjkjcflbadDoor
