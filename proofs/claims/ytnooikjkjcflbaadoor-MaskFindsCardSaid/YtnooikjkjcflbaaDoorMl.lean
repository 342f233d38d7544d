/- The walks of the laws MaskFinds, MaskLegal and MaskWrites: each returns true. Conditions: the listed variable holds what the program's text lays in it; words are words. -/
import Derived.Test.YtnooikjkjcflbaaDoorMr
namespace Go.Proofs.YtnooikjkjcflbaaDoor
open Go.RowKit
set_option linter.unusedVariables false
set_option linter.unusedSimpArgs false

theorem num_768 : ∀ k, k < 23 → (rowAt k).num = 768 → k = 0 := by decide +kernel
theorem name_mepc : ∀ k, k < 23 → sB ⟨(rowAt k).name.toArray⟩ ⟨#[109, 101, 112, 99]⟩ = true → k = 5 := by decide +kernel
theorem name_mepc5 : sB ⟨(rowAt 5).name.toArray⟩ ⟨#[109, 101, 112, 99]⟩ = true := by decide +kernel
theorem leg_768 : legV 0 4294967295 = 6280 := by decide +kernel
theorem mawake_c (w : World) (hr : RowsIs w) : Calls Tryd.prog 13 #[] w fun e w' => e = .returned (.bool true) ∧ Below w.heap.size w w' := by
  have HR := Lib.hid hr
  clear hr
  go_enter Tryd.func13, Tryd.ntmps13
  go_wp2_with fail
  refine (legal_c 768 4294967295 _ HR.out).mono ?_
  rintro e w1 ⟨⟨v, rfl, hv⟩, hb1⟩
  have hr1 := HR.out.below hb1
  have HR1 := Lib.hid hr1
  clear hr1
  obtain rfl : v = .tuple #[.int .u32 6280, .int .i64 0] := by
    rcases hv with ⟨k, hk, hp, _, rfl⟩ | ⟨hn, _⟩
    · rw [num_768 k hk hp, leg_768]
    · exact absurd (hn 0 (by decide)) (by decide +kernel)
  clear hv
  go_wp2_with fail
  refine (number_c ⟨#[109, 101, 112, 99]⟩ _ HR1.out).mono ?_
  rintro e w2 ⟨⟨v, rfl, hv⟩, hb2⟩
  obtain rfl : v = .tuple #[.int .i64 833, .int .i64 0] := by
    rcases hv with ⟨k, hk, hp, _, rfl⟩ | ⟨hn, _⟩
    · rw [name_mepc k hk hp]; rfl
    · exact absurd (hn 5 (by decide)) (fun h => absurd (name_mepc5.symm.trans h) (by decide))
  clear hv
  go_wp2
  go_ret
  exact ⟨rfl, bthen hb1 hb2⟩
theorem mwr_w (op rs1 imm : Int) (w : World) (hr : RowsIs w) : Calls Tryd.prog 6 #[.int .i64 op, .int .i64 rs1, .int .u32 imm] w fun e w' => e = .returned (.bool true) ∧ Below w.heap.size w w' := by
  have HR := Lib.hid hr
  clear hr
  go_enter Tryd.func6, Tryd.ntmps6
  go_wp2_with (first | (go_at_call 23; refine (wr_c op rs1 imm _).mono ?_; rintro e w' ⟨rfl, rfl⟩) | (go_at_call 24; refine (rwr_c op rs1 imm _).mono ?_; rintro e w' ⟨rfl, rfl⟩) | (go_at_call 13; refine (mawake_c _ HR.out).mono ?_; rintro e w' ⟨rfl, hb⟩))
  go_ret
  exact ⟨by simp, hb⟩
end Go.Proofs.YtnooikjkjcflbaaDoor
