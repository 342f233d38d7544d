/- The walks of the laws DecodeApart and DecodeTurned: each returns true. Conditions: words are words; the listed variable holds what the program's text lays in it. -/
import Derived.Test.YtnooikjkjcflbacDoorDk
import Derived.Test.YtnooikjkjcflbacDoorDz
import Derived.Test.YtnooikjkjcflbacDoorBt
namespace Go.Proofs.YtnooikjkjcflbacDoor
open Go.RowKit
set_option linter.unusedVariables false
set_option linter.unusedSimpArgs false

/-- An instruction's fields. -/
structure Ins6 where
  x0 : Int
  x1 : Int
  x2 : Int
  x3 : Int
  x4 : Int
  x5 : Int
def Ins6.val (i : Ins6) : Value := .agg #[.int .i64 i.x0, .int .i64 i.x1, .int .i64 i.x2, .int .i64 i.x3, .int .u32 i.x4, .int .i64 i.x5]
def decI (w : Int) : Ins6 := ⟨kindV w, oRd (formV (kindV w)) (w / 128 % 32), oRs1 (formV (kindV w)) (w / 32768 % 32), oRs2 (formV (kindV w)) (w / 1048576 % 32), immV w (formV (kindV w)), oCsr (formV (kindV w)) (w / 1048576)⟩
theorem decI_c (w : Int) (h : 0 ≤ w ∧ w ≤ 4294967295) (W : World) (hf : FormsIs W) : Calls Tryd.prog 10 #[.int .u32 w] W fun e w' => e = .returned (decI w).val ∧ Below W.heap.size W w' := dec_c w h W hf
theorem decI_inj (a b : Int) (ha : 0 ≤ a ∧ a ≤ 4294967295) (hb : 0 ≤ b ∧ b ≤ 4294967295) (h0 : (decI a).x0 = (decI b).x0) (h1 : (decI a).x1 = (decI b).x1) (h2 : (decI a).x2 = (decI b).x2) (h3 : (decI a).x3 = (decI b).x3) (h4 : (decI a).x4 = (decI b).x4) (h5 : (decI a).x5 = (decI b).x5) (hn : ¬ (decI a).x0 = 0) : a = b := by
  have hk : kindV a = kindV b := h0
  have hs := dform_same _ (kind_rng a)
  simp only [decI, ← hk] at h1 h2 h3 h4 h5
  rw [hs] at h1 h2 h3 h4 h5
  exact ins_inj a b ha hb hk _ rfl h1 h2 h3 h4 h5 hn
/-- Where two instructions part. -/
theorem ins_parts (i j : Ins6) : ¬ i.x0 = j.x0 ∨ (i.x0 = j.x0 ∧ (¬ i.x1 = j.x1 ∨ (i.x1 = j.x1 ∧ (¬ i.x2 = j.x2 ∨ (i.x2 = j.x2 ∧ (¬ i.x3 = j.x3 ∨ (i.x3 = j.x3 ∧ (¬ i.x4 = j.x4 ∨ (i.x4 = j.x4 ∧ (¬ i.x5 = j.x5 ∨ i.x5 = j.x5)))))))))) := by
  by_cases h0 : i.x0 = j.x0 <;> by_cases h1 : i.x1 = j.x1 <;> by_cases h2 : i.x2 = j.x2 <;> by_cases h3 : i.x3 = j.x3 <;> by_cases h4 : i.x4 = j.x4 <;> by_cases h5 : i.x5 = j.x5 <;> simp [*]
theorem nbb {a b : Int} (h : ¬ a = b) : (a != b) = true := bne_iff_ne.mpr h
set_option maxHeartbeats 16000000 in
set_option maxRecDepth 100000 in
theorem dapart_w (a b : Int) (ha : 0 ≤ a ∧ a ≤ 4294967295) (hb : 0 ≤ b ∧ b ≤ 4294967295) (W : World) (hf : FormsIs W) : Calls Tryd.prog 3 #[.int .u32 a, .int .u32 b] W fun e w' => e = .returned (.bool true) ∧ Below W.heap.size W w' := by
  have h1 := fun (v : World) (hv : FormsIs v) => decI_c a ha v hv
  have h2 := fun (v : World) (hv : FormsIs v) => decI_c b hb v hv
  have hd := fun (h : ¬ a = b) (h0 : (decI a).x0 = (decI b).x0) (h1 : (decI a).x1 = (decI b).x1) (h2 : (decI a).x2 = (decI b).x2) (h3 : (decI a).x3 = (decI b).x3) (h4 : (decI a).x4 = (decI b).x4) (h5 : (decI a).x5 = (decI b).x5) (hn : ¬ (decI a).x0 = 0) => h (decI_inj a b ha hb h0 h1 h2 h3 h4 h5 hn)
  have HF := Lib.hid hf
  clear hf ha hb
  by_cases hab : a = b
  · subst hab
    have H1 := Lib.hid h1
    clear h1 h2 hd
    generalize decI a = i at *
    obtain ⟨x0, x1, x2, x3, x4, x5⟩ := i
    unfold Ins6.val at H1
    by_cases hz : x0 = 0
    all_goals
      try subst hz
      try have k0 := nb hz
      go_enter Tryd.func3, Tryd.ntmps3
      go_wp2_with fail
      refine (H1.out _ HF.out).mono ?_
      rintro e w1 ⟨rfl, hb1⟩
      have HB1 := Lib.hid hb1
      clear hb1
      go_wp2_with fail
      refine (H1.out _ (HF.out.below (bal HB1.out _))).mono ?_
      rintro e w2 ⟨rfl, hb2⟩
      have HB2 := Lib.hid (bthen (bal HB1.out _) hb2)
      have hc2 := (bcf hb2).1
      have hz2 : w1.heap.size < w2.heap.size := by have := hb2.size; simp at this; omega
      have n2 : ¬ w1.heap.size = w2.heap.size := by omega
      clear hb2
      go_wp2_with (go_at_call 11; refine (awake3_c _ (HF.out.below (bal HB2.out _))).mono ?_; rintro e w3 ⟨rfl, hb3⟩)
      go_ret
      exact ⟨rfl, bthen (bal HB2.out _) hb3⟩
  · have hab1 := nb hab
    have hab2 := nbb hab
    have hd2 := hd hab
    have H1 := Lib.hid h1
    have H2 := Lib.hid h2
    clear h1 h2 hd hab
    generalize decI a = i at *
    generalize decI b = j at *
    have hp := ins_parts i j
    obtain ⟨x0, x1, x2, x3, x4, x5⟩ := i
    obtain ⟨y0, y1, y2, y3, y4, y5⟩ := j
    unfold Ins6.val at H1 H2
    dsimp only at hd2 hp
    rcases hp with d | ⟨rfl, d | ⟨rfl, d | ⟨rfl, d | ⟨rfl, d | ⟨rfl, d | rfl⟩⟩⟩⟩⟩
    all_goals
      try (have d1 := nb d
           have d2 := nbb d
           clear hd2 d)
      try (obtain rfl : x0 = 0 := by
             by_cases hz : x0 = 0
             · exact hz
             · exact absurd hz (fun hz => hd2 rfl rfl rfl rfl rfl rfl hz)
           clear hd2)
      go_enter Tryd.func3, Tryd.ntmps3
      go_wp2_with fail
      refine (H1.out _ HF.out).mono ?_
      rintro e w1 ⟨rfl, hb1⟩
      have HB1 := Lib.hid hb1
      clear hb1
      go_wp2_with fail
      refine (H2.out _ (HF.out.below (bal HB1.out _))).mono ?_
      rintro e w2 ⟨rfl, hb2⟩
      have HB2 := Lib.hid (bthen (bal HB1.out _) hb2)
      have hc2 := (bcf hb2).1
      have hz2 : w1.heap.size < w2.heap.size := by have := hb2.size; simp at this; omega
      have n2 : ¬ w1.heap.size = w2.heap.size := by omega
      clear hb2
      go_wp2_with (go_at_call 11; refine (awake3_c _ (HF.out.below (bal HB2.out _))).mono ?_; rintro e w3 ⟨rfl, hb3⟩)
      go_ret
      exact ⟨rfl, bthen (bal HB2.out _) hb3⟩
theorem xor_ne (w k : Int) (hw : 0 ≤ w ∧ w ≤ 4294967295) (hk : 0 ≤ k ∧ k < 32) : 0 ≤ bits .xor .u32 w (2 ^ k.toNat) ∧ bits .xor .u32 w (2 ^ k.toNat) ≤ 4294967295 ∧ ¬ w = bits .xor .u32 w (2 ^ k.toNat) := by
  obtain ⟨a, rfl⟩ := Int.eq_ofNat_of_zero_le hw.1
  obtain ⟨n, rfl⟩ := Int.eq_ofNat_of_zero_le hk.1
  have hp : (2 : Nat) ^ n < 4294967296 := Nat.lt_of_lt_of_le (Nat.pow_lt_pow_right (by decide) (by omega : n < 32)) (by decide)
  have h0 : (0 : Nat) < 2 ^ n := Nat.pow_pos (by decide)
  have e := xor_nat a (2 ^ n) (by omega) hp
  have hl : a ^^^ 2 ^ n < 2 ^ 32 := Nat.xor_lt_two_pow (by omega) hp
  rw [Int.toNat_natCast]
  have e2 : ((2 ^ n : Nat) : Int) = (2 : Int) ^ n := by exact_mod_cast rfl
  rw [e2] at e
  rw [e]
  refine ⟨by omega, by omega, fun h => ?_⟩
  have h1 : a = a ^^^ 2 ^ n := by exact_mod_cast h
  have h2 : a ^^^ a = a ^^^ (a ^^^ 2 ^ n) := by rw [← h1]
  rw [Nat.xor_self, ← Nat.xor_assoc, Nat.xor_self, Nat.zero_xor] at h2
  omega
end Go.Proofs.YtnooikjkjcflbacDoor
