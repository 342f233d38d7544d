/- Contracts of the Go functions negative and size of package muldiv: what they answer, the world unchanged. Conditions: none. -/
import Derived.Test.YtnooikjkjcflbaaProg
import Derived.WalkKit
import Derived.WalkSpells
import Derived.StillTactics
import Derived.Laws.Pointers
import Derived.Deep.RegionHeld3
import Derived.Deep.QuietTactic
import Derived.BigQuiet
import Derived.Deep.RegionWith
import Derived.RowKit3
import Derived.Recover
import Derived.KernelRfl
import Derived.Outline
import Derived.Lib.Hide
import Derived.Below
namespace Go.Proofs.Ytnooikjkjcflbaa
open Go.RowKit

theorem neg_calls (a : Int) (w : World) : Calls Try.prog 18 #[.int .u32 a] w fun e w' => e = .returned (.bool ((a / 2147483648) == 1)) ∧ w = w' := by
  go_enter Try.func18, Try.ntmps18
  go_wp2
  go_ret
  exact ⟨rfl, rfl⟩
def sizeP (a : Int) : Int := if (a / 2147483648 == 1) = true then (-a) % 4294967296 else a
theorem size_calls (a : Int) (w : World) : Calls Try.prog 21 #[.int .u32 a] w fun e w' => e = .returned (.int .u32 (sizeP a)) ∧ w = w' := by
  unfold sizeP
  by_cases h : (a / 2147483648 == 1) = true
  · rw [if_pos h]
    go_enter Try.func21, Try.ntmps21
    go_wp2_with (go_at_call 18; refine (neg_calls a _).mono ?_; rintro e w' ⟨rfl, rfl⟩)
    go_ret
    exact ⟨rfl, rfl⟩
  · rw [if_neg h]
    have h := Bool.eq_false_iff.mpr h
    go_enter Try.func21, Try.ntmps21
    go_wp2_with (go_at_call 18; refine (neg_calls a _).mono ?_; rintro e w' ⟨rfl, rfl⟩)
    go_ret
    exact ⟨rfl, rfl⟩
end Go.Proofs.Ytnooikjkjcflbaa
