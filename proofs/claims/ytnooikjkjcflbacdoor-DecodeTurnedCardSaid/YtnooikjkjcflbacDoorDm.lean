/- The walk of the law DecodeTurned: it returns true. Conditions: words are words; the listed variable holds what the program's text lays in it. -/
import Derived.Test.YtnooikjkjcflbacDoorDl
namespace Go.Proofs.YtnooikjkjcflbacDoor
open Go.RowKit
set_option linter.unusedVariables false
set_option linter.unusedSimpArgs false

theorem pow_word (k : Int) (hk : 0 ≤ k ∧ k < 32) : (2 : Int) ^ k.toNat % 4294967296 = 2 ^ k.toNat := by
  obtain ⟨n, rfl⟩ := Int.eq_ofNat_of_zero_le hk.1
  rw [Int.toNat_natCast]
  have hp : (2 : Nat) ^ n < 4294967296 := Nat.lt_of_lt_of_le (Nat.pow_lt_pow_right (by decide) (by omega : n < 32)) (by decide)
  have e2 : ((2 ^ n : Nat) : Int) = (2 : Int) ^ n := by exact_mod_cast rfl
  rw [← e2]
  have hp' : ((2 ^ n : Nat) : Int) < ((4294967296 : Nat) : Int) := Int.ofNat_lt.mpr hp
  exact Int.emod_eq_of_lt (Int.natCast_nonneg _) hp'
set_option maxHeartbeats 16000000 in
set_option maxRecDepth 100000 in
theorem dturned_w (a k : Int) (ha : 0 ≤ a ∧ a ≤ 4294967295) (hk : 0 ≤ k ∧ k ≤ 255) (W : World) (hf : FormsIs W) : Calls Tryd.prog 4 #[.int .u32 a, .int .u8 k] W fun e w' => e = .returned (.bool true) ∧ Below W.heap.size W w' := by
  have hx := xor_ne a (k % 32) ha (by omega)
  obtain ⟨hb0, hb1, hne⟩ := hx
  have hd := fun (h0 : (decI a).x0 = (decI (bits .xor .u32 a (2 ^ (k % 32).toNat))).x0) (h1 : (decI a).x1 = (decI (bits .xor .u32 a (2 ^ (k % 32).toNat))).x1) (h2 : (decI a).x2 = (decI (bits .xor .u32 a (2 ^ (k % 32).toNat))).x2) (h3 : (decI a).x3 = (decI (bits .xor .u32 a (2 ^ (k % 32).toNat))).x3) (h4 : (decI a).x4 = (decI (bits .xor .u32 a (2 ^ (k % 32).toNat))).x4) (h5 : (decI a).x5 = (decI (bits .xor .u32 a (2 ^ (k % 32).toNat))).x5) (hn : ¬ (decI a).x0 = 0) => hne (decI_inj a _ ha ⟨hb0, hb1⟩ h0 h1 h2 h3 h4 h5 hn)
  have h1 := fun (v : World) (hv : FormsIs v) => decI_c a ha v hv
  have h2 : ∀ (x : Int), x = bits .xor .u32 a (2 ^ (k % 32).toNat) → ∀ (v : World), FormsIs v → Calls Tryd.prog 10 #[.int .u32 x] v fun e w' => e = .returned (decI (bits .xor .u32 a (2 ^ (k % 32).toNat))).val ∧ Below v.heap.size v w' := by
    intro x hx v hv
    rw [hx]
    exact decI_c _ ⟨hb0, hb1⟩ v hv
  have hpw := pow_word (k % 32) (by omega)
  have H1 := Lib.hid h1
  have H2 := Lib.hid h2
  have HPW := Lib.hid hpw
  have HF := Lib.hid hf
  have hp := ins_parts (decI a) (decI (bits .xor .u32 a (2 ^ (k % 32).toNat)))
  obtain ⟨k0, k1⟩ := hk
  clear hf h1 h2 hne hb0 hb1 hpw
  generalize decI a = i at *
  generalize hj : decI (bits .xor .u32 a (2 ^ (k % 32).toNat)) = j at *
  clear hj
  obtain ⟨x0, x1, x2, x3, x4, x5⟩ := i
  obtain ⟨y0, y1, y2, y3, y4, y5⟩ := j
  unfold Ins6.val at H1 H2
  dsimp only at hd hp
  rcases hp with d | ⟨e0, d | ⟨e1, d | ⟨e2, d | ⟨e3, d | ⟨e4, d | e5⟩⟩⟩⟩⟩
  all_goals
    by_cases hz : x0 = 0
    all_goals
      try (exact (hd e0 e1 e2 e3 e4 e5 hz).elim)
    all_goals
      try (have d1 := nb d
           have d2 := nbb d
           clear hd d)
      try clear hd
      try subst e0
      try subst e1
      try subst e2
      try subst e3
      try subst e4
      try subst e5
      first | subst hz | have kz := nb hz
      go_enter Tryd.func4, Tryd.ntmps4
      go_wp2_with fail
      refine (H1.out _ HF.out).mono ?_
      rintro e w1 ⟨rfl, hb1⟩
      have HB1 := Lib.hid hb1
      clear hb1
      go_wp2_with fail
      refine (H2.out _ ?_ _ (HF.out.below (bal HB1.out _))).mono ?_
      · rw [HPW.out]
      rintro e w2 ⟨rfl, hb2⟩
      have HB2 := Lib.hid (bthen (bal HB1.out _) hb2)
      have hc2 := (bcf hb2).1
      have hz2 : w1.heap.size < w2.heap.size := by have := hb2.size; simp at this; omega
      have n2 : ¬ w1.heap.size = w2.heap.size := by omega
      clear hb2
      go_wp2_with (go_at_call 11; refine (awake3_c _ (HF.out.below (bal HB2.out _))).mono ?_; rintro e w3 ⟨rfl, hb3⟩)
      go_ret
      exact ⟨rfl, bthen (bal HB2.out _) hb3⟩
end Go.Proofs.YtnooikjkjcflbacDoor
