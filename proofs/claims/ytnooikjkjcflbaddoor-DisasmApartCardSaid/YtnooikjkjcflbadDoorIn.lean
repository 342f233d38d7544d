/- Contracts of inst.Form, Name and of the reference's Form: what they answer. Conditions: the listed variables hold what the program's text lays in them. -/
import Derived.Test.YtnooikjkjcflbadDoorIn0
import Derived.WalkSpells
import Derived.StillTactics
import Derived.Laws.Pointers
import Derived.Deep.RegionHeld3
import Derived.Deep.RegionWith
import Derived.Deep.QuietTactic
import Derived.Deep.LoopGhost
import Derived.BigQuiet
import Derived.KernelRfl
import Derived.Outline
import Derived.Lib.Hide
namespace Go.Proofs.YtnooikjkjcflbadDoor
open Go.RowKit
set_option linter.unusedVariables false
set_option linter.unusedSimpArgs false

def hasB (op : Int) : Bool := decide (0 ≤ op) && decide (op < 58)
def hasE (op : Int) : Int := if hasB op = true then 0 else 9
theorem has_t {op : Int} (h : hasB op = true) : 0 ≤ op ∧ op < 58 := by simpa [hasB] using h
theorem has_f {op : Int} (h : hasB op = false) : op < 0 ∨ 58 ≤ op := by simp [hasB] at h; omega
theorem has_c (op : Int) (w : World) : Calls Tryd.prog 72 #[.int .i64 op] w fun e w' => e = .returned (.bool (hasB op)) ∧ w = w' := by
  unfold hasB
  by_cases h : 0 ≤ op
  all_goals
    go_enter Tryd.func72, Tryd.ntmps72
    go_wp2
    go_ret
    exact ⟨by first | (simp [h]; done) | (simp; omega), rfl⟩
def formV (op : Int) : Int := if hasB op = true then formsAt op.toNat else 0
theorem form_c (op : Int) (w : World) (hf : FormsIs w) : Calls Tryd.prog 46 #[.int .i64 op] w fun e w' => e = .returned (.tuple #[.int .i64 (formV op), .int .i64 (hasE op)]) ∧ w = w' := by
  unfold formV hasE
  rcases Bool.eq_false_or_eq_true (hasB op) with h | h
  · obtain ⟨h0, h1⟩ := has_t h
    have hc := forms_cell hf op.toNat (by omega)
    clear hf
    rw [if_pos h, if_pos h]
    go_enter Tryd.func46, Tryd.ntmps46
    go_wp2_with (go_at_call 72; refine (has_c op _).mono ?_; rintro e w' ⟨rfl, rfl⟩)
    go_ret2
    exact ⟨rfl, rfl⟩
  · clear hf
    rw [if_neg (by simp [h]), if_neg (by simp [h])]
    go_enter Tryd.func46, Tryd.ntmps46
    go_wp2_with (go_at_call 72; refine (has_c op _).mono ?_; rintro e w' ⟨rfl, rfl⟩)
    go_ret2
    exact ⟨rfl, rfl⟩
def emptyS : ByteArray := ⟨#[]⟩
def nameV (op : Int) : ByteArray := if hasB op = true then nameAt op.toNat else ⟨#[]⟩
theorem name_c (op : Int) (w : World) (hf : NamesIs w) : Calls Tryd.prog 45 #[.int .i64 op] w fun e w' => e = .returned (.tuple #[.string (nameV op), .int .i64 (hasE op)]) ∧ w = w' := by
  unfold nameV hasE
  rcases Bool.eq_false_or_eq_true (hasB op) with h | h
  · obtain ⟨h0, h1⟩ := has_t h
    have hc := names_cell hf op.toNat (by omega)
    clear hf
    rw [if_pos h, if_pos h]
    go_enter Tryd.func45, Tryd.ntmps45
    go_wp2_with (go_at_call 72; refine (has_c op _).mono ?_; rintro e w' ⟨rfl, rfl⟩)
    go_ret2
    exact ⟨rfl, rfl⟩
  · clear hf
    rw [if_neg (by simp [h]), if_neg (by simp [h])]
    go_enter Tryd.func45, Tryd.ntmps45
    go_wp2_with (go_at_call 72; refine (has_c op _).mono ?_; rintro e w' ⟨rfl, rfl⟩)
    go_ret2
    exact ⟨rfl, rfl⟩
def rformV (op : Int) : Int :=
  if op = 1 ∨ op = 2 then 1 else if op = 3 then 2
  else if op = 4 ∨ (11 ≤ op ∧ op ≤ 15) ∨ (19 ≤ op ∧ op ≤ 24) ∨ op = 38 ∨ op = 39 then 3
  else if 5 ≤ op ∧ op ≤ 10 then 4 else if 16 ≤ op ∧ op ≤ 18 then 5
  else if (28 ≤ op ∧ op ≤ 37) ∨ (50 ≤ op ∧ op ≤ 57) then 6
  else if 25 ≤ op ∧ op ≤ 27 then 7 else if 42 ≤ op ∧ op ≤ 44 then 8 else if 45 ≤ op ∧ op ≤ 47 then 9 else 0
set_option maxHeartbeats 4000000 in
theorem rform_c (op : Int) (w : World) : Calls Tryd.prog 54 #[.int .i64 op] w fun e w' => e = .returned (.int .i64 (rformV op)) ∧ w = w' := by
  rcases (by omega : op < 1 ∨ op = 1 ∨ op = 2 ∨ op = 3 ∨ op = 4 ∨ (5 ≤ op ∧ op ≤ 10) ∨ (11 ≤ op ∧ op ≤ 15) ∨ (16 ≤ op ∧ op ≤ 18) ∨ (19 ≤ op ∧ op ≤ 24) ∨ (25 ≤ op ∧ op ≤ 27) ∨ (28 ≤ op ∧ op ≤ 37) ∨ op = 38 ∨ op = 39 ∨ (40 ≤ op ∧ op ≤ 41) ∨ (42 ≤ op ∧ op ≤ 44) ∨ (45 ≤ op ∧ op ≤ 47) ∨ (48 ≤ op ∧ op ≤ 49) ∨ (50 ≤ op ∧ op ≤ 57) ∨ 58 ≤ op) with h | rfl | rfl | rfl | rfl | ⟨h, h'⟩ | ⟨h, h'⟩ | ⟨h, h'⟩ | ⟨h, h'⟩ | ⟨h, h'⟩ | ⟨h, h'⟩ | rfl | rfl | ⟨h, h'⟩ | ⟨h, h'⟩ | ⟨h, h'⟩ | ⟨h, h'⟩ | ⟨h, h'⟩ | h
  all_goals
    try (have k1 : (op == 1) = false := nb (by omega)
         have k2 : (op == 2) = false := nb (by omega)
         have k3 : (op == 3) = false := nb (by omega)
         have k4 : (op == 4) = false := nb (by omega)
         have k5 : (op == 38) = false := nb (by omega)
         have k6 : (op == 39) = false := nb (by omega))
    go_enter Tryd.func54, Tryd.ntmps54
    go_wp2
    go_ret
    refine ⟨ret_i64 ?_, rfl⟩
    first | rfl | (simp only [rformV]; repeat' split) 
    all_goals first | rfl | omega
end Go.Proofs.YtnooikjkjcflbadDoor
