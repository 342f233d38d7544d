/- The walk of the law MaskLegal: it returns true. Conditions: the listed variable holds what the program's text lays in it; words are words. -/
import Derived.Test.YtnooikjkjcflbaaDoorMg
import Derived.Test.YtnooikjkjcflbaaDoorMl
import Derived.Test.YtnooikjkjcflbaaDoorBt
namespace Go.Proofs.YtnooikjkjcflbaaDoor
open Go.RowKit
set_option linter.unusedVariables false
set_option linter.unusedSimpArgs false

theorem row_words : ∀ k, k < 23 → 0 ≤ (rowAt k).kept ∧ (rowAt k).kept ≤ 4294967295 ∧ 0 ≤ (rowAt k).fixed ∧ (rowAt k).fixed ≤ 4294967295 := by decide +kernel
/-- What is kept of what was kept is what was kept. -/
theorem leg_twice (k : Nat) (hk : k < 23) (x : Int) (hx : 0 ≤ x ∧ x ≤ 4294967295) : legV k (legV k x) = legV k x := by
  obtain ⟨h1, h2, h3, h4⟩ := row_words k hk
  unfold legV
  obtain ⟨x, rfl⟩ := Int.eq_ofNat_of_zero_le hx.1
  obtain ⟨a, ha⟩ := Int.eq_ofNat_of_zero_le h1
  obtain ⟨b, hb⟩ := Int.eq_ofNat_of_zero_le h3
  simp only [ha, hb] at h1 h2 h3 h4 ⊢
  have e1 : x &&& a < 2 ^ 32 := Nat.and_lt_two_pow x (by omega)
  have e2 : x &&& a ||| b < 2 ^ 32 := Nat.or_lt_two_pow e1 (by omega)
  have e3 : (x &&& a ||| b) &&& a < 2 ^ 32 := Nat.and_lt_two_pow _ (by omega)
  rw [and_nat x a (by omega) (by omega), or_nat _ b (by omega) (by omega), and_nat _ a (by omega) (by omega), or_nat _ b (by omega) (by omega)]
  congr 1
  apply Nat.eq_of_testBit_eq
  intro i
  simp only [Nat.testBit_or, Nat.testBit_and]
  cases x.testBit i <;> cases a.testBit i <;> cases b.testBit i <;> rfl
theorem first_neg {p : MRow → Bool} {v : Int} (h : FirstRow p v) : (v < 0 ↔ NoRow p 23) := by
  rcases h with ⟨k, hk, hp, hn, rfl⟩ | ⟨hn, rfl⟩
  · constructor
    · intro h; omega
    · intro h; have := h k hk; rw [hp] at this; cases this
  · exact ⟨fun _ => hn, fun _ => by decide⟩
theorem mleg_w (csr x : Int) (hx : 0 ≤ x ∧ x ≤ 4294967295) (w : World) (hr : RowsIs w) : Calls Tryd.prog 4 #[.int .i64 csr, .int .u32 x] w fun e w' => e = .returned (.bool true) ∧ Below w.heap.size w w' := by
  have HR := Lib.hid hr
  clear hr
  go_enter Tryd.func4, Tryd.ntmps4
  go_wp2_with fail
  refine (legal_c csr x _ HR.out).mono ?_
  rintro e w1 ⟨⟨v, rfl, hv⟩, hb1⟩
  rcases hv with ⟨k, hk, hp, hn, rfl⟩ | ⟨hn, rfl⟩
  · have hfr : FirstRow (fun r => r.num == csr) (k : Int) := .inl ⟨k, hk, yb hp, hn, rfl⟩
    have HFR := Lib.hid hfr
    have hk0 : ¬ (k : Int) < 0 := by omega
    have ht := leg_twice k hk x hx
    generalize hy : legV k x = y at ht
    have HY := Lib.hid hy
    clear hfr hp hn hy
    have HB1 := Lib.hid hb1
    clear hb1
    go_wp2_with fail
    refine (place_c csr _).mono ?_
    rintro e w2 ⟨⟨v2, rfl, hv2⟩, hb2⟩
    obtain rfl := hv2.unique HFR.out
    have hb12 := bthen HB1.out hb2
    clear hv2 hb2
    have HB2 := Lib.hid hb12
    clear hb12
    go_wp2_with fail
    refine (legal_c csr y _ (HR.out.below HB2.out)).mono ?_
    rintro e w3 ⟨⟨v3, rfl, hv3⟩, hb3⟩
    have hb13 := bthen HB2.out hb3
    have HB3 := Lib.hid hb13
    clear hb3 hb13
    obtain rfl : v3 = .tuple #[.int .u32 y, .int .i64 0] := by
      rcases hv3 with ⟨k', hk', hp', hn', rfl⟩ | ⟨hn', _⟩
      · have : (k' : Int) = k := FirstRow.unique (.inl ⟨k', hk', yb hp', hn', rfl⟩) HFR.out
        obtain rfl : k' = k := by omega
        rw [ht]
      · have := (first_neg HFR.out).2 hn'
        omega
    clear hv3
    go_wp2_with (first | (go_at_call 20; refine (rlegal_c csr x k hk HFR.out _).mono ?_; rintro e w4 ⟨rfl, hb4⟩; rw [HY.out]; have HB4 := Lib.hid (bthen HB3.out hb4); clear hb4) | (go_at_call 13; refine (mawake_c _ (HR.out.below HB4.out)).mono ?_; rintro e w5 ⟨rfl, hb5⟩))
    go_ret
    exact ⟨by simp, bthen HB4.out hb5⟩
  · have HB1 := Lib.hid hb1
    have HN := Lib.hid hn
    clear hb1 hn
    go_wp2_with fail
    refine (place_c csr _).mono ?_
    rintro e w2 ⟨⟨v2, rfl, hv2⟩, hb2⟩
    have hneg : v2 < 0 := (first_neg hv2).2 HN.out
    have HB2 := Lib.hid (bthen HB1.out hb2)
    clear hv2 hb2
    go_wp2_with (go_at_call 13; refine (mawake_c _ (HR.out.below HB2.out)).mono ?_; rintro e w5 ⟨rfl, hb5⟩)
    go_ret
    exact ⟨by simp, bthen HB2.out hb5⟩
end Go.Proofs.YtnooikjkjcflbaaDoor
