/- Contract of the reference's Imm of layer 3: the number of a form. Conditions: a word is a word. -/
import Derived.Test.YtnooikjkjcflbadDoorDa
import Derived.Test.YtnooikjkjcflbadDoorRg
namespace Go.Proofs.YtnooikjkjcflbadDoor
open Go.RowKit Go.Proofs.YtnooikjkjcflbadDoorW.PrintWords Go.Proofs.YtnooikjkjcflbadDoorW.PrintLast Go.Proofs.YtnooikjkjcflbadDoorW.PrintMore Go.Proofs.YtnooikjkjcflbadDoor.PDisasmWords
set_option linter.unusedVariables false
set_option linter.unusedSimpArgs false

def sgx (n : Nat) (x : Int) : Int := if x < 2 ^ (n - 1) then x else x + 4294967296 - 2 ^ n
def immJ (w : Int) : Int := w / 2147483648 * 1048576 + w / 4096 % 256 * 4096 + w / 1048576 % 2 * 2048 + w / 2097152 % 1024 * 2
def immB (w : Int) : Int := w / 2147483648 * 4096 + w / 128 % 2 * 2048 + w / 33554432 % 64 * 32 + w / 256 % 16 * 2
def immS (w : Int) : Int := w / 33554432 * 32 + w / 128 % 32
def immV (w f : Int) : Int :=
  if f = 1 then w / 4096 * 4096 else if f = 2 then sgx 21 (immJ w) else if f = 3 then sgx 12 (w / 1048576) else if f = 4 then sgx 13 (immB w) else if f = 5 then sgx 12 (immS w)
  else if f = 7 then w / 1048576 % 32 else if f = 9 then w / 32768 % 32 else 0
theorem rb_c (w : Int) (hi lo v : Int) (W : World) (h : mimesisref03_bits.f 40 w hi lo = some v) : Calls Tryd.prog 78 #[.int .u32 w, .int .i64 hi, .int .i64 lo] W fun e w' => e = .returned (.int .u32 v) ∧ Below W.heap.size W w' :=
  (mimesisref03_bits.calls 40 w hi lo v W h).mono fun e w' ⟨he, hw⟩ => ⟨he, hw.below⟩
theorem rx_c (x n v : Int) (W : World) (h : mimesisref01_Extend.f 40 x n = some v) : Calls Tryd.prog 94 #[.int .u32 x, .int .i64 n] W fun e w' => e = .returned (.int .u32 v) ∧ Below W.heap.size W w' :=
  (mimesisref01_Extend.calls 40 x n v W h).mono fun e w' ⟨he, hw⟩ => ⟨he, hw.below⟩
theorem rb_facts (w : Int) (h : 0 ≤ w ∧ w ≤ 4294967295) :
    mimesisref03_bits.f 40 w 31 12 = some (w / 4096) ∧ mimesisref03_bits.f 40 w 31 31 = some (w / 2147483648) ∧ mimesisref03_bits.f 40 w 19 12 = some (w / 4096 % 256) ∧ mimesisref03_bits.f 40 w 20 20 = some (w / 1048576 % 2) ∧ mimesisref03_bits.f 40 w 30 21 = some (w / 2097152 % 1024) ∧
    mimesisref03_bits.f 40 w 31 20 = some (w / 1048576) ∧ mimesisref03_bits.f 40 w 7 7 = some (w / 128 % 2) ∧ mimesisref03_bits.f 40 w 30 25 = some (w / 33554432 % 64) ∧ mimesisref03_bits.f 40 w 11 8 = some (w / 256 % 16) ∧ mimesisref03_bits.f 40 w 31 25 = some (w / 33554432) ∧
    mimesisref03_bits.f 40 w 11 7 = some (w / 128 % 32) ∧ mimesisref03_bits.f 40 w 24 20 = some (w / 1048576 % 32) ∧ mimesisref03_bits.f 40 w 19 15 = some (w / 32768 % 32) := by
  have f := fun (hi lo : Nat) (a : lo ≤ hi) (b : hi ≤ 31) => dbits w h hi lo a b 40 (by decide)
  have g1 := f 31 12 (by decide) (by decide)
  have g2 := f 31 31 (by decide) (by decide)
  have g3 := f 31 20 (by decide) (by decide)
  have g4 := f 31 25 (by decide) (by decide)
  have e1 : w / 2 ^ 12 % 2 ^ (31 - 12 + 1) = w / 4096 := by simp only [Nat.reduceSub, Nat.reduceAdd, Int.reducePow]; omega
  have e2 : w / 2 ^ 31 % 2 ^ (31 - 31 + 1) = w / 2147483648 := by simp only [Nat.reduceSub, Nat.reduceAdd, Int.reducePow]; omega
  have e3 : w / 2 ^ 20 % 2 ^ (31 - 20 + 1) = w / 1048576 := by simp only [Nat.reduceSub, Nat.reduceAdd, Int.reducePow]; omega
  have e4 : w / 2 ^ 25 % 2 ^ (31 - 25 + 1) = w / 33554432 := by simp only [Nat.reduceSub, Nat.reduceAdd, Int.reducePow]; omega
  rw [e1] at g1
  rw [e2] at g2
  rw [e3] at g3
  rw [e4] at g4
  exact ⟨g1, g2, f 19 12 (by decide) (by decide), f 20 20 (by decide) (by decide), f 30 21 (by decide) (by decide), g3, f 7 7 (by decide) (by decide), f 30 25 (by decide) (by decide), f 11 8 (by decide) (by decide), g4, f 11 7 (by decide) (by decide), f 24 20 (by decide) (by decide), f 19 15 (by decide) (by decide)⟩
theorem immJ_rng (w : Int) (h : 0 ≤ w ∧ w ≤ 4294967295) : 0 ≤ immJ w ∧ immJ w < 2097152 := by unfold immJ; omega
theorem immB_rng (w : Int) (h : 0 ≤ w ∧ w ≤ 4294967295) : 0 ≤ immB w ∧ immB w < 8192 := by unfold immB; omega
theorem immS_rng (w : Int) (h : 0 ≤ w ∧ w ≤ 4294967295) : 0 ≤ immS w ∧ immS w < 4096 := by unfold immS; omega
theorem rx_facts (w : Int) (h : 0 ≤ w ∧ w ≤ 4294967295) : mimesisref01_Extend.f 40 (immJ w) 21 = some (sgx 21 (immJ w)) ∧ mimesisref01_Extend.f 40 (w / 1048576) 12 = some (sgx 12 (w / 1048576)) ∧ mimesisref01_Extend.f 40 (immB w) 13 = some (sgx 13 (immB w)) ∧ mimesisref01_Extend.f 40 (immS w) 12 = some (sgx 12 (immS w)) :=
  ⟨dext _ 21 (by decide) (by decide) (immJ_rng w h) 40 (by decide), dext _ 12 (by decide) (by decide) ⟨by omega, by simp only [Int.reducePow]; omega⟩ 40 (by decide), dext _ 13 (by decide) (by decide) (immB_rng w h) 40 (by decide), dext _ 12 (by decide) (by decide) (immS_rng w h) 40 (by decide)⟩
theorem rx_d (w : Int) (h : 0 ≤ w ∧ w ≤ 4294967295) (n x y v : Int) (hy : mimesisref01_Extend.f 40 y n = some v) (hx : x = y) (W : World) : Calls Tryd.prog 94 #[.int .u32 x, .int .i64 n] W fun e w' => e = .returned (.int .u32 v) ∧ Drawn0 W w' := by
  subst hx
  exact mimesisref01_Extend.calls 40 x n v W hy
set_option maxHeartbeats 8000000 in
theorem rimm_d (w : Int) (h : 0 ≤ w ∧ w ≤ 4294967295) (f : Int) (hf : 0 ≤ f ∧ f ≤ 9) (W : World) : Calls Tryd.prog 77 #[.int .u32 w, .int .i64 f] W fun e w' => e = .returned (.int .u32 (immV w f)) ∧ Drawn0 W w' := by
  have hrb := Lib.hid (rb_facts w h)
  have hrx := Lib.hid (rx_facts w h)
  have H := Lib.hid h
  obtain ⟨h0, h1⟩ := h
  rcases (by omega : f = 0 ∨ f = 1 ∨ f = 2 ∨ f = 3 ∨ f = 4 ∨ f = 5 ∨ f = 6 ∨ f = 7 ∨ f = 8 ∨ f = 9) with rfl | rfl | rfl | rfl | rfl | rfl | rfl | rfl | rfl | rfl
  all_goals
    clear hf
    go_enter Tryd.func77, Tryd.ntmps77
    go_wp2_with (first
      | (go_at_call_of 78 (Value.int IntKind.u32 w); refine (mimesisref03_bits.calls 40 w _ _ _ _ (by first | exact hrb.out.1 | exact hrb.out.2.1 | exact hrb.out.2.2.1 | exact hrb.out.2.2.2.1 | exact hrb.out.2.2.2.2.1 | exact hrb.out.2.2.2.2.2.1 | exact hrb.out.2.2.2.2.2.2.1 | exact hrb.out.2.2.2.2.2.2.2.1 | exact hrb.out.2.2.2.2.2.2.2.2.1 | exact hrb.out.2.2.2.2.2.2.2.2.2.1 | exact hrb.out.2.2.2.2.2.2.2.2.2.2.1 | exact hrb.out.2.2.2.2.2.2.2.2.2.2.2.1 | exact hrb.out.2.2.2.2.2.2.2.2.2.2.2.2)).mono ?_; rintro e w' ⟨rfl, ⟨nd, rfl⟩⟩))
    try (go_ret; exact ⟨ret_u32 (by unfold immV; simp; try omega), by repeat (first | exact Drawn0.refl _ | apply Drawn0.step)⟩)
  · refine (rx_d w H.out 21 _ (immJ w) _ hrx.out.1 (by unfold immJ; omega) _).mono ?_
    rintro e w' ⟨rfl, ⟨nd, rfl⟩⟩
    go_wp2
    go_ret
    exact ⟨ret_u32 (by simp [immV]), by repeat (first | exact Drawn0.refl _ | apply Drawn0.step)⟩
  · refine (rx_d w H.out 12 _ (w / 1048576) _ hrx.out.2.1 rfl _).mono ?_
    rintro e w' ⟨rfl, ⟨nd, rfl⟩⟩
    go_wp2
    go_ret
    exact ⟨ret_u32 (by simp [immV]), by repeat (first | exact Drawn0.refl _ | apply Drawn0.step)⟩
  · refine (rx_d w H.out 13 _ (immB w) _ hrx.out.2.2.1 (by unfold immB; omega) _).mono ?_
    rintro e w' ⟨rfl, ⟨nd, rfl⟩⟩
    go_wp2
    go_ret
    exact ⟨ret_u32 (by simp [immV]), by repeat (first | exact Drawn0.refl _ | apply Drawn0.step)⟩
  · refine (rx_d w H.out 12 _ (immS w) _ hrx.out.2.2.2 (by unfold immS; omega) _).mono ?_
    rintro e w' ⟨rfl, ⟨nd, rfl⟩⟩
    go_wp2
    go_ret
    exact ⟨ret_u32 (by simp [immV]), by repeat (first | exact Drawn0.refl _ | apply Drawn0.step)⟩
end Go.Proofs.YtnooikjkjcflbadDoor
