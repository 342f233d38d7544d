/- The walk of the law DecodeRight: it returns true. Conditions: a word is a word; the listed variable holds what the program's text lays in it. -/
import Derived.Test.YtnooikjkjcflbabDoorDi
import Derived.Test.YtnooikjkjcflbabDoorIb
namespace Go.Proofs.YtnooikjkjcflbabDoor
open Go.RowKit
set_option linter.unusedVariables false
set_option linter.unusedSimpArgs false

theorem imm_rng (w : Int) (h : 0 ≤ w ∧ w ≤ 4294967295) (f : Int) : 0 ≤ immV w f ∧ immV w f ≤ 4294967295 := by
  have a := immJ_rng w h
  have b := immB_rng w h
  have c := immS_rng w h
  unfold immV sgx
  simp only [Nat.reduceSub, Int.reducePow]
  generalize immJ w = x at *
  generalize immB w = y at *
  generalize immS w = z at *
  repeat' split
  all_goals omega
theorem sg12 (x : Int) (h : 0 ≤ x ∧ x < 4096) : sgnB 12 (sgx 12 x) = true := by
  unfold sgnB sgx wrap32
  simp only [Nat.reduceSub, Int.reducePow, if_true, Bool.and_eq_true, decide_eq_true_eq]
  split <;> omega
theorem sg13 (x : Int) (h : 0 ≤ x ∧ x < 8192) (e : x % 2 = 0) : evB 13 (sgx 13 x) = true := by
  unfold evB sgnB sgx wrap32
  simp only [Nat.reduceSub, Int.reducePow, Int.reduceEq, if_true, if_false, Bool.and_eq_true, decide_eq_true_eq]
  split <;> omega
theorem sg21 (x : Int) (h : 0 ≤ x ∧ x < 2097152) (e : x % 2 = 0) : evB 21 (sgx 21 x) = true := by
  unfold evB sgnB sgx wrap32
  simp only [Nat.reduceSub, Int.reducePow, Int.reduceEq, if_true, if_false, Bool.and_eq_true, decide_eq_true_eq]
  split <;> omega
theorem ins_right (w : Int) (h : 0 ≤ w ∧ w ≤ 4294967295) (op : Int) (ho : 0 ≤ op ∧ op ≤ 57) (f : Int) (hf : formV op = f) (hr : 0 ≤ f ∧ f ≤ 9) : rightB op (oRd f (w / 128 % 32)) (oRs1 f (w / 32768 % 32)) (oRs2 f (w / 1048576 % 32)) (immV w f) (oCsr f (w / 1048576)) = true := by
  have hh : hasB op = true := by simp [hasB]; omega
  have a := immJ_rng w h
  have b := immB_rng w h
  have c := immS_rng w h
  have n : numB f (immV w f) = true := by
    have ea : immJ w % 2 = 0 := by unfold immJ; omega
    have eb : immB w % 2 = 0 := by unfold immB; omega
    rcases (by omega : f = 0 ∨ f = 1 ∨ f = 2 ∨ f = 3 ∨ f = 4 ∨ f = 5 ∨ f = 6 ∨ f = 7 ∨ f = 8 ∨ f = 9) with rfl | rfl | rfl | rfl | rfl | rfl | rfl | rfl | rfl | rfl
    · rfl
    · simp only [numB, immV, if_true, decide_eq_true_eq]; omega
    · simp only [numB, immV, Int.reduceEq, if_true, if_false]; exact sg21 _ a ea
    · simp only [numB, immV, Int.reduceEq, if_true, if_false, true_or]; exact sg12 _ (by omega)
    · simp only [numB, immV, Int.reduceEq, if_true, if_false]; exact sg13 _ b eb
    · simp only [numB, immV, Int.reduceEq, if_true, if_false, or_true]; exact sg12 _ c
    · rfl
    · simp only [numB, immV, Int.reduceEq, if_true, if_false, true_or, false_or, or_self, decide_eq_true_eq]; omega
    · rfl
    · simp only [numB, immV, Int.reduceEq, if_true, if_false, or_true, false_or, or_self, decide_eq_true_eq]; omega
  have o : onlyB f (oRd f (w / 128 % 32)) (oRs1 f (w / 32768 % 32)) (oRs2 f (w / 1048576 % 32)) (immV w f) (oCsr f (w / 1048576)) = true := by
    have e : oImm f (immV w f) = immV w f := by
      unfold oImm
      split
      · rfl
      · rename_i hq
        have : f = 0 ∨ f = 6 ∨ f = 8 := by omega
        rcases this with rfl | rfl | rfl <;> rfl
    unfold onlyB
    rw [e]
    unfold oRd oRs1 oRs2 oCsr
    simp only [Bool.and_eq_true, beq_iff_eq]
    refine ⟨?_, ?_, ?_, trivial, ?_⟩ <;> split <;> rfl
  have r1 : regB (oRd f (w / 128 % 32)) = true := by unfold regB oRd; simp only [Bool.and_eq_true, decide_eq_true_eq]; split <;> omega
  have r2 : regB (oRs1 f (w / 32768 % 32)) = true := by unfold regB oRs1; simp only [Bool.and_eq_true, decide_eq_true_eq]; split <;> omega
  have r3 : regB (oRs2 f (w / 1048576 % 32)) = true := by unfold regB oRs2; simp only [Bool.and_eq_true, decide_eq_true_eq]; split <;> omega
  have r4 : 0 ≤ oCsr f (w / 1048576) ∧ oCsr f (w / 1048576) ≤ 4095 := by unfold oCsr; split <;> omega
  unfold rightB
  rw [hf, hh, o, r1, r2, r3, n]
  simp [r4.1, r4.2]
theorem dright_w (w : Int) (h : 0 ≤ w ∧ w ≤ 4294967295) (W : World) (hf : FormsIs W) : Calls Tryd.prog 10 #[.int .u32 w] W fun e w' => e = .returned (.bool true) ∧ Below W.heap.size W w' := by
  have h1 := dec_c w h
  have hi := imm_rng w h (formV (kindV w))
  have h2 := fun (v : World) => rright_c (kindV w) (oRd (formV (kindV w)) (w / 128 % 32)) (oRs1 (formV (kindV w)) (w / 32768 % 32)) (oRs2 (formV (kindV w)) (w / 1048576 % 32)) (immV w (formV (kindV w))) (oCsr (formV (kindV w)) (w / 1048576)) hi v
  rw [← right_same _ _ _ _ _ _ hi, ins_right w h (kindV w) (kind_rng w) _ rfl (dform_rng _)] at h2
  have H1 := Lib.hid h1
  have H2 := Lib.hid h2
  have HF := Lib.hid hf
  clear h1 h2 hf h hi
  unfold insV at H1
  go_enter Tryd.func10, Tryd.ntmps10
  go_wp2_with fail
  refine (H1.out _ HF.out).mono ?_
  rintro e w1 ⟨rfl, hb1⟩
  have HB1 := Lib.hid hb1
  clear hb1
  go_wp2_with fail
  refine (H2.out _).mono ?_
  rintro e w2 ⟨rfl, hb2⟩
  have HB2 := Lib.hid (bthen HB1.out hb2)
  clear hb2
  go_wp2_with (go_at_call 43; refine (awake3_c _ (HF.out.below HB2.out)).mono ?_; rintro e w3 ⟨rfl, hb3⟩)
  go_ret
  exact ⟨rfl, bthen HB2.out hb3⟩
end Go.Proofs.YtnooikjkjcflbabDoor
