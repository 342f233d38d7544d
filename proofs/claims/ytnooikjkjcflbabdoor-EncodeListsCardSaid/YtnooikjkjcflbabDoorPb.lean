/- Contracts of ref04.put (where the field is empty) and ref04.part. Conditions: words are words; the place is within a word. -/
import Derived.Test.YtnooikjkjcflbabDoorPa
namespace Go.Proofs.YtnooikjkjcflbabDoor
open Go.RowKit Go.Proofs.YtnooikjkjcflbabDoorW.PrintWords Go.Proofs.YtnooikjkjcflbabDoorW.PrintLast Go.Proofs.YtnooikjkjcflbabDoorW.PrintMore Go.Proofs.YtnooikjkjcflbabDoor.PDecodeWords
set_option linter.unusedVariables false
set_option linter.unusedSimpArgs false

set_option maxRecDepth 100000 in
theorem part_c (hi lo : Nat) (hl : lo ≤ hi) (hh : hi ≤ 31) (n : Int) (h : 0 ≤ n ∧ n ≤ 4294967295) (w : World) : Calls Tryd.prog 55 #[.int .u32 n, .int .i64 hi, .int .i64 lo] w fun e w' => e = .returned (.int .u32 (n / 2 ^ lo % 2 ^ (hi - lo + 1))) ∧ Drawn0 w w' := by
  have e : ((hi - lo + 1 : Nat) : Int) = wrap64 (wrap64 ((hi : Int) - lo) + 1) := by unfold wrap64; omega
  have h1 := fun v => rbits_c lo (hi - lo + 1) (by omega) n h v
  rw [e] at h1
  have H1 := Lib.hid h1
  clear h1 h e hl hh
  generalize n / 2 ^ lo % 2 ^ (hi - lo + 1) = r at *
  generalize (lo : Int) = a at *
  generalize (hi : Int) = b at *
  go_enter Tryd.func55, Tryd.ntmps55
  go_wp2_with fail
  refine (H1.out _).mono ?_
  rintro e w' ⟨rfl, ⟨nd, rfl⟩⟩
  go_wp2
  go_ret
  exact ⟨rfl, by repeat (first | exact Drawn0.refl _ | apply Drawn0.step)⟩
set_option maxRecDepth 100000 in
theorem rput4_c (hi lo : Nat) (hl : lo ≤ hi) (hh : hi ≤ 31) (W x : Int) (hW : 0 ≤ W ∧ W ≤ 4294967295) (hx : 0 ≤ x ∧ x ≤ 4294967295) (hz : W / 2 ^ lo % 2 ^ (hi - lo + 1) = 0) (hr : W + x % 2 ^ (hi - lo + 1) * 2 ^ lo ≤ 4294967295) (w : World) :
    Calls Tryd.prog 54 #[.int .u32 W, .int .i64 hi, .int .i64 lo, .int .u32 x] w fun e w' => e = .returned (.int .u32 (W + x % 2 ^ (hi - lo + 1) * 2 ^ lo)) ∧ Drawn0 w w' := by
  have e : ((hi - lo + 1 : Nat) : Int) = wrap64 (wrap64 ((hi : Int) - lo) + 1) := by unfold wrap64; omega
  have h1 := fun v => rput_c lo (hi - lo + 1) (by omega) (by omega) W x hW hx hz hr v
  rw [e] at h1
  have H1 := Lib.hid h1
  clear h1 e hl hh hW hx hz hr
  generalize W + x % 2 ^ (hi - lo + 1) * 2 ^ lo = r at *
  generalize (lo : Int) = a at *
  generalize (hi : Int) = b at *
  go_enter Tryd.func54, Tryd.ntmps54
  go_wp2_with fail
  refine (H1.out _).mono ?_
  rintro e w' ⟨rfl, ⟨nd, rfl⟩⟩
  go_wp2
  go_ret
  exact ⟨rfl, by repeat (first | exact Drawn0.refl _ | apply Drawn0.step)⟩
theorem empty_of (W : Int) (lo len : Nat) (hW : 0 ≤ W) (h : W % 2 ^ (lo + len) < 2 ^ lo) : W / 2 ^ lo % 2 ^ len = 0 := by
  obtain ⟨n, rfl⟩ := Int.eq_ofNat_of_zero_le hW
  have h' : n % 2 ^ (lo + len) < 2 ^ lo := by exact_mod_cast h
  have e : n % 2 ^ (lo + len) / 2 ^ lo = n / 2 ^ lo % 2 ^ len := by rw [Nat.pow_add, Nat.mod_mul_right_div_self]
  have r : n / 2 ^ lo % 2 ^ len = 0 := by rw [← e]; exact Nat.div_eq_of_lt h'
  exact_mod_cast r
/-- ref04.put where the field is empty and the number fits. -/
theorem rput_v (hi lo : Nat) (hl : lo ≤ hi) (hh : hi ≤ 31) (W x V : Int) (hW : 0 ≤ W ∧ W ≤ 4294967295) (hx : 0 ≤ x ∧ x < 2 ^ (hi - lo + 1)) (hz : W % 2 ^ (lo + (hi - lo + 1)) < 2 ^ lo) (hv : W + x * 2 ^ lo = V) (hV : V ≤ 4294967295) (w : World) :
    Calls Tryd.prog 54 #[.int .u32 W, .int .i64 hi, .int .i64 lo, .int .u32 x] w fun e w' => e = .returned (.int .u32 V) ∧ Drawn0 w w' := by
  have hb : (2 : Int) ^ (hi - lo + 1) ≤ 2 ^ 32 := by exact_mod_cast Nat.pow_le_pow_right (by decide) (by omega)
  have e : x % 2 ^ (hi - lo + 1) = x := Int.emod_eq_of_lt hx.1 hx.2
  have h := rput4_c hi lo hl hh W x hW ⟨hx.1, by omega⟩ (empty_of W lo _ hW.1 hz) (by rw [e, hv]; exact hV) w
  rw [e, hv] at h
  exact h
end Go.Proofs.YtnooikjkjcflbabDoor
