/- Contracts of inst.only, reg, number, even, signed and of the reference's signed, reg, Signed and Power. Conditions: words are words; widths and powers are those that occur. -/
import Derived.Test.YtnooikjkjcflbadDoorIn
import Derived.Laws.BitsLemmas
namespace Go.Proofs.YtnooikjkjcflbadDoor
open Go.RowKit
set_option linter.unusedVariables false
set_option linter.unusedSimpArgs false

theorem u32w (n : Int) (h : 0 ≤ n) (h' : n < 2 ^ 32) : IntKind.u32.wrap n = n := IntWalk.u32_in n ⟨h, by omega⟩
theorem and1 (w : Int) (h : 0 ≤ w ∧ w ≤ 4294967295) : bits .and .u32 w 1 = w % 2 := bits_mask .u32 32 (by decide) u32w 1 (by decide) w h.1 (by omega)
theorem and4095 (w : Int) (h : 0 ≤ w ∧ w ≤ 4294967295) : bits .and .u32 w 4095 = w % 4096 := bits_mask .u32 32 (by decide) u32w 12 (by decide) w h.1 (by omega)
def regB (n : Int) : Bool := decide (0 ≤ n) && decide (n ≤ 31)
theorem reg_c (n : Int) (w : World) : Calls Tryd.prog 70 #[.int .i64 n] w fun e w' => e = .returned (.bool (regB n)) ∧ w = w' := by
  unfold regB
  by_cases h : 0 ≤ n
  all_goals
    go_enter Tryd.func70, Tryd.ntmps70
    go_wp2
    go_ret
    exact ⟨by first | (simp [h]; done) | (simp; omega), rfl⟩
def sgnB (width : Int) (x : Int) : Bool :=
  if width = 12 then decide (-2048 ≤ wrap32 x) && decide (wrap32 x < 2048)
  else if width = 13 then decide (-4096 ≤ wrap32 x) && decide (wrap32 x < 4096)
  else decide (-1048576 ≤ wrap32 x) && decide (wrap32 x < 1048576)
theorem sig_c (x : Int) (h : 0 ≤ x ∧ x ≤ 4294967295) (width : Int) (hw : width = 12 ∨ width = 13 ∨ width = 21) (w : World) : Calls Tryd.prog 92 #[.int .u32 x, .int .i64 width] w fun e w' => e = .returned (.bool (sgnB width x)) ∧ w = w' := by
  rcases hw with rfl | rfl | rfl
  all_goals
    go_enter Tryd.func92, Tryd.ntmps92
    go_wp2
    go_ret
    refine ⟨ret_b ?_, rfl⟩
    rw [Bool.eq_iff_iff]
    simp [sgnB]
    simp only [wrap32] at *
    omega
def evB (width : Int) (x : Int) : Bool := decide (x % 2 = 0) && sgnB width x
theorem even_c (x : Int) (h : 0 ≤ x ∧ x ≤ 4294967295) (width : Int) (hw : width = 12 ∨ width = 13 ∨ width = 21) (w : World) : Calls Tryd.prog 91 #[.int .u32 x, .int .i64 width] w fun e w' => e = .returned (.bool (evB width x)) ∧ w = w' := by
  have e1 := and1 x h
  unfold evB
  by_cases h2 : x % 2 = 0
  · have k : (x % 2 == 0) = true := yb h2
    go_enter Tryd.func91, Tryd.ntmps91
    go_wp2_with (go_at_call 92; refine (sig_c x h width hw _).mono ?_; rintro e w' ⟨rfl, rfl⟩)
    go_ret
    exact ⟨by simp [h2], rfl⟩
  · have k : (x % 2 == 0) = false := nb h2
    go_enter Tryd.func91, Tryd.ntmps91
    go_wp2_with (go_at_call 92; refine (sig_c x h width hw _).mono ?_; rintro e w' ⟨rfl, rfl⟩)
    go_ret
    exact ⟨by simp [h2], rfl⟩
def numB (form x : Int) : Bool :=
  if form = 1 then decide (x % 4096 = 0) else if form = 2 then evB 21 x else if form = 4 then evB 13 x
  else if form = 3 ∨ form = 5 then sgnB 12 x else if form = 7 ∨ form = 9 then decide (x ≤ 31) else true
theorem num_c (x : Int) (h : 0 ≤ x ∧ x ≤ 4294967295) (form : Int) (hf : 0 ≤ form ∧ form ≤ 9) (w : World) : Calls Tryd.prog 71 #[.int .u32 x, .int .i64 form] w fun e w' => e = .returned (.bool (numB form x)) ∧ w = w' := by
  have e1 := and4095 x h
  rcases (by omega : form = 0 ∨ form = 1 ∨ form = 2 ∨ form = 3 ∨ form = 4 ∨ form = 5 ∨ form = 6 ∨ form = 7 ∨ form = 8 ∨ form = 9) with rfl | rfl | rfl | rfl | rfl | rfl | rfl | rfl | rfl | rfl
  all_goals
    go_enter Tryd.func71, Tryd.ntmps71
    go_wp2_with (first | (go_at_call 91; refine (even_c x h _ (by decide) _).mono ?_; rintro e w' ⟨rfl, rfl⟩) | (go_at_call 92; refine (sig_c x h _ (by decide) _).mono ?_; rintro e w' ⟨rfl, rfl⟩))
    go_ret
    exact ⟨ret_b (by first | (simp [numB]; done) | (rw [Bool.eq_iff_iff]; simp [numB])), rfl⟩
def oRd (f rd : Int) : Int := if f ≠ 0 ∧ f ≠ 4 ∧ f ≠ 5 then rd else 0
def oRs1 (f r : Int) : Int := if 3 ≤ f ∧ f ≠ 9 then r else 0
def oRs2 (f r : Int) : Int := if 4 ≤ f ∧ f ≤ 6 then r else 0
def oImm (f x : Int) : Int := if f ≠ 0 ∧ f ≠ 6 ∧ f ≠ 8 then x else 0
def oCsr (f c : Int) : Int := if 8 ≤ f then c else 0
set_option maxHeartbeats 4000000 in
theorem only_c (op rd rs1 rs2 imm csr form : Int) (hf : 0 ≤ form ∧ form ≤ 9) (w : World) : Calls Tryd.prog 69 #[.agg #[.int .i64 op, .int .i64 rd, .int .i64 rs1, .int .i64 rs2, .int .u32 imm, .int .i64 csr], .int .i64 form] w fun e w' =>
    e = .returned (.agg #[.int .i64 op, .int .i64 (oRd form rd), .int .i64 (oRs1 form rs1), .int .i64 (oRs2 form rs2), .int .u32 (oImm form imm), .int .i64 (oCsr form csr)]) ∧ Below w.heap.size w w' := by
  rcases (by omega : form = 0 ∨ form = 1 ∨ form = 2 ∨ form = 3 ∨ form = 4 ∨ form = 5 ∨ form = 6 ∨ form = 7 ∨ form = 8 ∨ form = 9) with rfl | rfl | rfl | rfl | rfl | rfl | rfl | rfl | rfl | rfl
  all_goals
    go_enter Tryd.func69, Tryd.ntmps69
    go_wp2
    refine bodyPost_ret (v := .agg #[.int .i64 op, .int .i64 (oRd _ rd), .int .i64 (oRs1 _ rs1), .int .i64 (oRs2 _ rs2), .int .u32 (oImm _ imm), .int .i64 (oCsr _ csr)]) (by simp [results, Tryd.results69, go_sem, oRd, oRs1, oRs2, oImm, oCsr]) rfl ⟨rfl, ?_⟩
    repeat (first | exact Below.refl _ _ | refine bal ?_ _ | (refine bset ?_ (by simp <;> omega) _) | refine Below.drew ?_ | refine bdn ?_ _)
end Go.Proofs.YtnooikjkjcflbadDoor
