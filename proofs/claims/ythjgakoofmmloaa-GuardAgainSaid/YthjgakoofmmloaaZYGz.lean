/- The state of the guarder's exits: its cells and rows, and how they move; which exits are kept, as a list of numbers. -/
import Derived.Test.YthjgakoofmmloaaZYNz
import Derived.Test.YthjgakoofmmloaaZYQg
import Derived.Deep.RegionHeld3
namespace Go.Proofs.Ythjgakoofmmloaa
open Go.RowKit Go.Proofs.YthjgakoofmmloaaW.PrintWords Go.Proofs.YthjgakoofmmloaaW.PrintLast Go.Proofs.YthjgakoofmmloaaW.PrintMore Go.Proofs.Ythjgakoofmmloaa.PNumberDoes
set_option linter.unusedVariables false
set_option linter.unusedSimpArgs false

set_option maxHeartbeats 8000000 in
set_option maxRecDepth 100000 in
theorem gdnames_c (N gs : Nat) (A2 : Option Addr) (cc : Nat) (tv : List Int) (ok : Nat → Prop) (w : World) (x1 : w.cell? ⟨gs, 1, none⟩ = some (.slice A2 tv.length cc)) (HT : Kd.R (Kd.int .i64) 3 w N ok (.slice A2 tv.length cc) tv) (o : S67)
  (h1 : o.f0 = 3 ∨ o.f0 = 4 ∨ o.f0 = 5 ∨ o.f0 = 6 → 0 ≤ o.f1 ∧ o.f1 < (tv.length : Int)) (h2 : o.f0 = 3 ∨ o.f0 = 5 ∨ o.f0 = 6 → 0 ≤ o.f2 ∧ o.f2 < (tv.length : Int)) :
  Calls Try.prog 106 #[.pointer (some ⟨gs, 0, none⟩), .agg #[.int .i64 o.f0, .int .i64 o.f1, .int .i64 o.f2, .int .u32 o.f3, .int .i64 o.f4, .int .i64 o.f5]] w fun e w' => e = .returned (.agg #[.int .i64 (nmO tv o).f0, .int .i64 (nmO tv o).f1, .int .i64 (nmO tv o).f2, .int .u32 (nmO tv o).f3, .int .i64 (nmO tv o).f4, .int .i64 (nmO tv o).f5]) ∧ Below w.heap.size w w' := by
 have HC2 := Lib.hid (Kd.R_reads' HT).2.2
 have H0 := Lib.hid HT
 have hgs : gs < w.heap.size := World.block_lt_of_cell? w ⟨gs, 1, none⟩ x1
 have hn0 : ¬ gs = w.heap.size := by omega
 have hn1 : ¬ gs = w.heap.size + 1 := by omega
 have hcase : (o.f0 = 3 ∧ nmO tv o = ⟨o.f0, rd tv o.f1, rd tv o.f2, o.f3, o.f4, o.f5⟩) ∨ (o.f0 = 5 ∧ nmO tv o = ⟨o.f0, rd tv o.f1, rd tv o.f2, o.f3, o.f4, o.f5⟩) ∨ (o.f0 = 6 ∧ nmO tv o = ⟨o.f0, rd tv o.f1, rd tv o.f2, o.f3, o.f4, o.f5⟩) ∨ (o.f0 = 4 ∧ nmO tv o = ⟨o.f0, rd tv o.f1, o.f2, o.f3, o.f4, o.f5⟩) ∨ ((o.f0 ≠ 3 ∧ o.f0 ≠ 5 ∧ o.f0 ≠ 6 ∧ o.f0 ≠ 4) ∧ nmO tv o = ⟨o.f0, o.f1, o.f2, o.f3, o.f4, o.f5⟩) := by
  unfold nmO
  by_cases h3 : o.f0 = 3
  ·exact .inl ⟨h3, by rw [if_pos (.inl h3)]⟩
  by_cases h5 : o.f0 = 5
  ·exact .inr (.inl ⟨h5, by rw [if_pos (.inr (.inl h5))]⟩)
  by_cases h6 : o.f0 = 6
  ·exact .inr (.inr (.inl ⟨h6, by rw [if_pos (.inr (.inr h6))]⟩))
  by_cases h4 : o.f0 = 4
  ·exact .inr (.inr (.inr (.inl ⟨h4, by rw [if_neg (by omega), if_pos h4]⟩)))
  ·exact .inr (.inr (.inr (.inr ⟨⟨h3, h5, h6, h4⟩, by rw [if_neg (by omega), if_neg h4]⟩)))
 generalize nmO tv o = q at *
 clear HT
 go_enter Try.func106, Try.ntmps106
 go_upto_block 0 with fail
 go_cut [] from 7 to 30 (fun wx => Hid (Below w.heap.size w wx) ∧ wx.heap[w.heap.size]? = some (.cells #[.int .i64 q.f0, .int .i64 q.f1, .int .i64 q.f2, .int .u32 q.f3, .int .i64 q.f4, .int .i64 q.f5] 67 (0, 0)) ∧ wx.heap[w.heap.size + 1]? = some (.cells #[.int .i64 0, .int .i64 0, .int .i64 0, .int .u32 0, .int .i64 0, .int .i64 0] 67 (0, 0)))
 case first =>
  rcases hcase with ⟨h, hq⟩ | ⟨h, hq⟩ | ⟨h, hq⟩ | ⟨h, hq⟩ | ⟨h, hq⟩
  ·-- 3
   have t3 : (o.f0 == 3) = true := beq_iff_eq.2 h
   have t5 : (o.f0 == 5) = false := beq_eq_false_iff_ne.2 (by omega)
   have t6 : (o.f0 == 6) = false := beq_eq_false_iff_ne.2 (by omega)
   have t4 : (o.f0 == 4) = false := beq_eq_false_iff_ne.2 (by omega)
   obtain ⟨a1, b1⟩ := h1 (by omega)
   obtain ⟨a2, b2⟩ := h2 (by omega)
   obtain ⟨g2, cap2, hv2, -, hg2, -⟩ := Kd.R_form H0.out (by omega)
   cases hv2
   have hg2n : ¬ g2 = w.heap.size := by omega
   have hg2m : ¬ g2 = w.heap.size + 1 := by omega
   obtain ⟨ad, had, d1⟩ := Kd.at_int HC2.out o.f1 a1 b1
   cases had
   rw [qI] at d1
   obtain ⟨ad, had, d2⟩ := Kd.at_int HC2.out o.f2 a2 b2
   cases had
   rw [qI] at d2
   clear h1 h2 h H0 HC2
   subst hq
   generalize rd tv o.f1 = y1 at *
   generalize rd tv o.f2 = y2 at *
   go_wp2_with fail
   go_region_law (fail)
   all_goals
    go_wp2_with fail
    go_region_law (fail)
    all_goals
     go_wp2_with fail
     go_meet
     refine ⟨Lib.hid (by repeat (first | (with_reducible exact Below.refl _ _) | (with_reducible refine bal ?_ _) | (with_reducible refine bset ?_ (by simp) _) | (with_reducible refine qL ?_) | (with_reducible refine bdn ?_ _))), ?_, ?_⟩
     all_goals repeat (first | (with_reducible refine qi ?_) | (with_reducible refine qg ?_ _))
     ·exact qf (qD _ _) _
     ·simpa using qD (w.alloc _) _
  ·-- 5
   have t3 : (o.f0 == 3) = false := beq_eq_false_iff_ne.2 (by omega)
   have t5 : (o.f0 == 5) = true := beq_iff_eq.2 h
   have t6 : (o.f0 == 6) = false := beq_eq_false_iff_ne.2 (by omega)
   have t4 : (o.f0 == 4) = false := beq_eq_false_iff_ne.2 (by omega)
   obtain ⟨a1, b1⟩ := h1 (by omega)
   obtain ⟨a2, b2⟩ := h2 (by omega)
   obtain ⟨g2, cap2, hv2, -, hg2, -⟩ := Kd.R_form H0.out (by omega)
   cases hv2
   have hg2n : ¬ g2 = w.heap.size := by omega
   have hg2m : ¬ g2 = w.heap.size + 1 := by omega
   obtain ⟨ad, had, d1⟩ := Kd.at_int HC2.out o.f1 a1 b1
   cases had
   rw [qI] at d1
   obtain ⟨ad, had, d2⟩ := Kd.at_int HC2.out o.f2 a2 b2
   cases had
   rw [qI] at d2
   clear h1 h2 h H0 HC2
   subst hq
   generalize rd tv o.f1 = y1 at *
   generalize rd tv o.f2 = y2 at *
   go_wp2_with fail
   go_region_law (fail)
   all_goals
    go_wp2_with fail
    go_region_law (fail)
    all_goals
     go_wp2_with fail
     go_meet
     refine ⟨Lib.hid (by repeat (first | (with_reducible exact Below.refl _ _) | (with_reducible refine bal ?_ _) | (with_reducible refine bset ?_ (by simp) _) | (with_reducible refine qL ?_) | (with_reducible refine bdn ?_ _))), ?_, ?_⟩
     all_goals repeat (first | (with_reducible refine qi ?_) | (with_reducible refine qg ?_ _))
     ·exact qf (qD _ _) _
     ·simpa using qD (w.alloc _) _
  ·-- 6
   have t3 : (o.f0 == 3) = false := beq_eq_false_iff_ne.2 (by omega)
   have t5 : (o.f0 == 5) = false := beq_eq_false_iff_ne.2 (by omega)
   have t6 : (o.f0 == 6) = true := beq_iff_eq.2 h
   have t4 : (o.f0 == 4) = false := beq_eq_false_iff_ne.2 (by omega)
   obtain ⟨a1, b1⟩ := h1 (by omega)
   obtain ⟨a2, b2⟩ := h2 (by omega)
   obtain ⟨g2, cap2, hv2, -, hg2, -⟩ := Kd.R_form H0.out (by omega)
   cases hv2
   have hg2n : ¬ g2 = w.heap.size := by omega
   have hg2m : ¬ g2 = w.heap.size + 1 := by omega
   obtain ⟨ad, had, d1⟩ := Kd.at_int HC2.out o.f1 a1 b1
   cases had
   rw [qI] at d1
   obtain ⟨ad, had, d2⟩ := Kd.at_int HC2.out o.f2 a2 b2
   cases had
   rw [qI] at d2
   clear h1 h2 h H0 HC2
   subst hq
   generalize rd tv o.f1 = y1 at *
   generalize rd tv o.f2 = y2 at *
   go_wp2_with fail
   go_region_law (fail)
   all_goals
    go_wp2_with fail
    go_region_law (fail)
    all_goals
     go_wp2_with fail
     go_meet
     refine ⟨Lib.hid (by repeat (first | (with_reducible exact Below.refl _ _) | (with_reducible refine bal ?_ _) | (with_reducible refine bset ?_ (by simp) _) | (with_reducible refine qL ?_) | (with_reducible refine bdn ?_ _))), ?_, ?_⟩
     all_goals repeat (first | (with_reducible refine qi ?_) | (with_reducible refine qg ?_ _))
     ·exact qf (qD _ _) _
     ·simpa using qD (w.alloc _) _
  ·-- 4
   have t3 : (o.f0 == 3) = false := beq_eq_false_iff_ne.2 (by omega)
   have t5 : (o.f0 == 5) = false := beq_eq_false_iff_ne.2 (by omega)
   have t6 : (o.f0 == 6) = false := beq_eq_false_iff_ne.2 (by omega)
   have t4 : (o.f0 == 4) = true := beq_iff_eq.2 h
   obtain ⟨a1, b1⟩ := h1 (by omega)
   obtain ⟨g2, cap2, hv2, -, hg2, -⟩ := Kd.R_form H0.out (by omega)
   cases hv2
   have hg2n : ¬ g2 = w.heap.size := by omega
   have hg2m : ¬ g2 = w.heap.size + 1 := by omega
   obtain ⟨ad, had, d1⟩ := Kd.at_int HC2.out o.f1 a1 b1
   cases had
   rw [qI] at d1
   clear h1 h2 h H0 HC2
   subst hq
   generalize rd tv o.f1 = y1 at *
   go_wp2_with fail
   go_region_law (fail)
   all_goals
    go_wp2_with fail
    go_meet
    refine ⟨Lib.hid (by repeat (first | (with_reducible exact Below.refl _ _) | (with_reducible refine bal ?_ _) | (with_reducible refine bset ?_ (by simp) _) | (with_reducible refine qL ?_) | (with_reducible refine bdn ?_ _))), ?_, ?_⟩
    all_goals repeat (first | (with_reducible refine qi ?_) | (with_reducible refine qg ?_ _))
    ·exact qf (qD _ _) _
    ·simpa using qD (w.alloc _) _
  ·-- else
   have t3 : (o.f0 == 3) = false := beq_eq_false_iff_ne.2 h.1
   have t5 : (o.f0 == 5) = false := beq_eq_false_iff_ne.2 h.2.1
   have t6 : (o.f0 == 6) = false := beq_eq_false_iff_ne.2 h.2.2.1
   have t4 : (o.f0 == 4) = false := beq_eq_false_iff_ne.2 h.2.2.2
   clear h1 h2 h H0 HC2
   subst hq
   go_wp2_with fail
   go_meet
   refine ⟨Lib.hid (by repeat (first | (with_reducible exact Below.refl _ _) | (with_reducible refine bal ?_ _) | (with_reducible refine bset ?_ (by simp) _) | (with_reducible refine qL ?_) | (with_reducible refine bdn ?_ _))), ?_, ?_⟩
   all_goals repeat (first | (with_reducible refine qi ?_) | (with_reducible refine qg ?_ _))
   ·exact qf (qD _ _) _
   ·simpa using qD (w.alloc _) _
 case rest =>
  obtain ⟨HBC, b0, b1⟩ := hcut
  obtain ⟨f0, f1, f2, f3, f4, f5⟩ := q
  simp only at b0
  have b' := (qC (qC (qC (qC (qC (qC b1 0 (.int .i64 f0)) 1 (.int .i64 f1)) 2 (.int .i64 f2)) 3 (.int .u32 f3)) 4 (.int .i64 f4)) 5 (.int .i64 f5))
  have hbel : Below w.heap.size w ((((((wc.setCell ⟨w.heap.size + 1, 0, none⟩ (.int .i64 f0)).setCell ⟨w.heap.size + 1, 1, none⟩ (.int .i64 f1)).setCell ⟨w.heap.size + 1, 2, none⟩ (.int .i64 f2)).setCell ⟨w.heap.size + 1, 3, none⟩ (.int .u32 f3)).setCell ⟨w.heap.size + 1, 4, none⟩ (.int .i64 f4)).setCell ⟨w.heap.size + 1, 5, none⟩ (.int .i64 f5)) := (bset (bset (bset (bset (bset (bset HBC.out (Nat.le_succ _) _) (Nat.le_succ _) _) (Nat.le_succ _) _) (Nat.le_succ _) _) (Nat.le_succ _) _) (Nat.le_succ _) _)
  have c0 : wc.cell? ⟨w.heap.size, 0, none⟩ = some (.int .i64 f0) := by rw [qb b0]; rfl
  have c1 : wc.cell? ⟨w.heap.size, 1, none⟩ = some (.int .i64 f1) := by rw [qb b0]; rfl
  have c2 : wc.cell? ⟨w.heap.size, 2, none⟩ = some (.int .i64 f2) := by rw [qb b0]; rfl
  have c3 : wc.cell? ⟨w.heap.size, 3, none⟩ = some (.int .u32 f3) := by rw [qb b0]; rfl
  have c4 : wc.cell? ⟨w.heap.size, 4, none⟩ = some (.int .i64 f4) := by rw [qb b0]; rfl
  have c5 : wc.cell? ⟨w.heap.size, 5, none⟩ = some (.int .i64 f5) := by rw [qb b0]; rfl
  have z0 : wc.cell? ⟨w.heap.size + 1, 0, none⟩ = some (.int .i64 0) := by rw [qb b1]; rfl
  have j0 : wc.frozen? ⟨w.heap.size + 1, 0, none⟩ = false := qa b1 0
  have z1 : wc.cell? ⟨w.heap.size + 1, 1, none⟩ = some (.int .i64 0) := by rw [qb b1]; rfl
  have j1 : wc.frozen? ⟨w.heap.size + 1, 1, none⟩ = false := qa b1 1
  have z2 : wc.cell? ⟨w.heap.size + 1, 2, none⟩ = some (.int .i64 0) := by rw [qb b1]; rfl
  have j2 : wc.frozen? ⟨w.heap.size + 1, 2, none⟩ = false := qa b1 2
  have z3 : wc.cell? ⟨w.heap.size + 1, 3, none⟩ = some (.int .u32 0) := by rw [qb b1]; rfl
  have j3 : wc.frozen? ⟨w.heap.size + 1, 3, none⟩ = false := qa b1 3
  have z4 : wc.cell? ⟨w.heap.size + 1, 4, none⟩ = some (.int .i64 0) := by rw [qb b1]; rfl
  have j4 : wc.frozen? ⟨w.heap.size + 1, 4, none⟩ = false := qa b1 4
  have z5 : wc.cell? ⟨w.heap.size + 1, 5, none⟩ = some (.int .i64 0) := by rw [qb b1]; rfl
  have j5 : wc.frozen? ⟨w.heap.size + 1, 5, none⟩ = false := qa b1 5
  have HB1 := Lib.hid b'
  have HB2 := Lib.hid hbel
  clear b' hbel b0 b1 HBC H0 HC2 hcase h1 h2 x1
  go_wp2
  generalize hW : ((((((wc.setCell ⟨w.heap.size + 1, 0, none⟩ (.int .i64 f0)).setCell ⟨w.heap.size + 1, 1, none⟩ (.int .i64 f1)).setCell ⟨w.heap.size + 1, 2, none⟩ (.int .i64 f2)).setCell ⟨w.heap.size + 1, 3, none⟩ (.int .u32 f3)).setCell ⟨w.heap.size + 1, 4, none⟩ (.int .i64 f4)).setCell ⟨w.heap.size + 1, 5, none⟩ (.int .i64 f5)) = W at *
  have hb2 : W.heap[w.heap.size + 1]? = some (.cells #[.int .i64 f0, .int .i64 f1, .int .i64 f2, .int .u32 f3, .int .i64 f4, .int .i64 f5] 67 (0, 0)) := HB1.out
  clear hW z0 z1 z2 z3 z4 z5 j0 j1 j2 j3 j4 j5 c0 c1 c2 c3 c4 c5
  try simp only [Exit.inBlock, Exit.then]
  refine bodyPost_ret (results_cell_row rfl _ _ (w.heap.size + 1) 67 _ (0, 0) _ rfl hb2 Try.underlying67 rfl (by kernel_rfl)) rfl ?_
  exact ⟨rfl, HB2.out⟩
end Go.Proofs.Ythjgakoofmmloaa

namespace Go.Proofs.Ythjgakoofmmloaa
open Go.RowKit Go.Proofs.YthjgakoofmmloaaW.PrintWords Go.Proofs.YthjgakoofmmloaaW.PrintLast Go.Proofs.YthjgakoofmmloaaW.PrintMore Go.Proofs.Ythjgakoofmmloaa.PNumberDoes
set_option linter.unusedVariables false
set_option linter.unusedSimpArgs false

def otherI (n : Int) : Int := if n = 5 ∨ n = 7 ∨ n = 9 then n + 1 else if n = 6 ∨ n = 8 ∨ n = 10 then n - 1 else 0
theorem other_f (n : Int) (k : Nat) : guard_Other.f (k + 1) n = some (otherI n) := by
 unfold guard_Other.f otherI
 simp only [guard_Other.j0]
 by_cases h5 : n = 5
 ·subst h5; simp [wrap64]
 by_cases h6 : n = 6
 ·subst h6; simp [wrap64]
 by_cases h7 : n = 7
 ·subst h7; simp [wrap64]
 by_cases h8 : n = 8
 ·subst h8; simp [wrap64]
 by_cases h9 : n = 9
 ·subst h9; simp [wrap64]
 by_cases h10 : n = 10
 ·subst h10; simp [wrap64]
 simp [h5, h6, h7, h8, h9, h10]
theorem rother_f (n : Int) : mimesisref31_Other.f n = some (otherI n) := by
 unfold mimesisref31_Other.f otherI
 by_cases h5 : n = 5
 ·subst h5; simp [wrap64, rd]
 by_cases h6 : n = 6
 ·subst h6; simp [wrap64, rd]
 by_cases h7 : n = 7
 ·subst h7; simp [wrap64, rd]
 by_cases h8 : n = 8
 ·subst h8; simp [wrap64, rd]
 by_cases h9 : n = 9
 ·subst h9; simp [wrap64, rd]
 by_cases h10 : n = 10
 ·subst h10; simp [wrap64, rd]
 rw [if_neg (by omega : ¬ (n = 5 ∨ n = 7 ∨ n = 9)), if_neg (by omega : ¬ (n = 6 ∨ n = 8 ∨ n = 10))]
 by_cases ha : n < 5
 ·rw [if_pos ha]
 ·rw [if_neg ha, if_pos (by omega)]
def takenI (n a b : Int) : Bool :=
 if n = 5 then a == b else if n = 6 then a != b else if n = 7 then decide (wrap32 a < wrap32 b) else if n = 8 then decide (wrap32 a ≥ wrap32 b) else if n = 9 then decide (a < b) else if n = 10 then decide (a ≥ b) else false
theorem taken_f (n a b : Int) : alu_Taken.f n a b = some (takenI n a b, if 5 ≤ n ∧ n ≤ 10 then 0 else 9) := by
 unfold alu_Taken.f takenI
 by_cases h5 : n = 5
 ·simp [h5]
 by_cases h6 : n = 6
 ·simp [h6]
 by_cases h7 : n = 7
 ·simp [h7]
 by_cases h8 : n = 8
 ·simp [h8]
 by_cases h9 : n = 9
 ·simp [h9]
 by_cases h10 : n = 10
 ·simp [h10]
 rw [if_neg h5, if_neg h6, if_neg h7, if_neg h8, if_neg h9, if_neg h10, if_neg h5, if_neg h6, if_neg h7, if_neg h8, if_neg h9, if_neg h10, if_neg (by omega)]
theorem signed_i (a : Int) (h0 : 0 ≤ a) (h1 : a ≤ 4294967295) : mimesisref01_Signed.f a = some (wrap32 a) := by
 unfold mimesisref01_Signed.f wrap64 wrap32
 by_cases h : a ≥ 2147483648
 ·rw [if_pos h]; congr 1; omega
 ·rw [if_neg h]; congr 1; omega
theorem rtaken_f (n a b : Int) (hn : 5 ≤ n ∧ n ≤ 10) (a0 : 0 ≤ a) (a1 : a ≤ 4294967295) (b0 : 0 ≤ b) (b1 : b ≤ 4294967295) : mimesisref07_Taken.f n a b = some (takenI n a b) := by
 have e : (wrap32 a == wrap32 b) = (a == b) := by
  unfold wrap32
  by_cases h : a = b
  ·simp [h]
  ·have : ¬ ((a + 2147483648) % 4294967296 - 2147483648 = (b + 2147483648) % 4294967296 - 2147483648) := by omega
   first | (rw [beq_eq_false_iff_ne.2 h, beq_eq_false_iff_ne.2 this]) | (simp [h]; omega)
 have wa : wrap64 a = a := by unfold wrap64; omega
 have wb : wrap64 b = b := by unfold wrap64; omega
 unfold mimesisref07_Taken.f takenI
 rw [signed_i a a0 a1, Option.bind_some, signed_i b b0 b1, Option.bind_some, wa, wb, e, show (wrap32 a != wrap32 b) = (a != b) from congrArg not e]
 by_cases h5 : n = 5
 ·rw [if_pos h5, if_pos h5]
 by_cases h6 : n = 6
 ·rw [if_neg h5, if_neg h5, if_pos h6, if_pos h6]
 by_cases h7 : n = 7
 ·rw [if_neg h5, if_neg h5, if_neg h6, if_neg h6, if_pos h7, if_pos h7]
 by_cases h8 : n = 8
 ·rw [if_neg h5, if_neg h5, if_neg h6, if_neg h6, if_neg h7, if_neg h7, if_pos h8, if_pos h8]
 by_cases h9 : n = 9
 ·rw [if_neg h5, if_neg h5, if_neg h6, if_neg h6, if_neg h7, if_neg h7, if_neg h8, if_neg h8, if_pos h9, if_pos h9]
 ·rw [if_neg h5, if_neg h5, if_neg h6, if_neg h6, if_neg h7, if_neg h7, if_neg h8, if_neg h8, if_neg h9, if_neg h9, if_pos (by omega)]
theorem told_f (b : Bool) : guard_told.f b = some (if b = true then 1 else 2) := by
 unfold guard_told.f
 cases b <;> rfl
def knownF (l : List S67) (q : S67) : List S67 → Int
 | [] => 0
 | x :: r => if x.f0 = 6 ∧ x.f1 = q.f1 ∧ x.f2 = q.f2 ∧ wrap64 x.f3 = wrap64 q.f3 then 1 else if x.f0 = 6 ∧ x.f1 = q.f1 ∧ x.f2 = q.f2 ∧ wrap64 x.f3 = otherI (wrap64 q.f3) then 2 else knownF l q r
def knownI (l : List S67) (q : S67) : Int :=
 if (qz l q.f1).f0 = 2 ∧ (qz l q.f2).f0 = 2 then (if takenI (wrap64 q.f3) (qz l q.f1).f3 (qz l q.f2).f3 = true then 1 else 2)
 else if q.f1 = q.f2 then (if takenI (wrap64 q.f3) 0 0 = true then 1 else 2) else knownF l q l
end Go.Proofs.Ythjgakoofmmloaa

namespace Go.Proofs.Ythjgakoofmmloaa
open Go.RowKit Go.Proofs.YthjgakoofmmloaaW.PrintWords Go.Proofs.YthjgakoofmmloaaW.PrintLast Go.Proofs.YthjgakoofmmloaaW.PrintMore Go.Proofs.Ythjgakoofmmloaa.PNumberDoes
set_option linter.unusedVariables false
set_option linter.unusedSimpArgs false

theorem known_cases (l : List S67) (q xa xb : S67) (ha : qz l q.f1 = xa) (hb : qz l q.f2 = xb) :
  ((xa.f0 == 2) = true ∧ (xb.f0 == 2) = true ∧ knownI l q = (if takenI (wrap64 q.f3) xa.f3 xb.f3 = true then 1 else 2)) ∨
  (((xa.f0 == 2) = false ∨ ((xa.f0 == 2) = true ∧ (xb.f0 == 2) = false)) ∧ (q.f1 == q.f2) = true ∧ knownI l q = (if takenI (wrap64 q.f3) 0 0 = true then 1 else 2)) ∨
  (((xa.f0 == 2) = false ∨ ((xa.f0 == 2) = true ∧ (xb.f0 == 2) = false)) ∧ (q.f1 == q.f2) = false ∧ knownI l q = knownF l q (l.drop 0)) := by
 unfold knownI
 rw [ha, hb]
 by_cases h : xa.f0 = 2 ∧ xb.f0 = 2
 ·exact .inl ⟨beq_iff_eq.2 h.1, beq_iff_eq.2 h.2, if_pos h⟩
 ·rw [if_neg h]
  have hd : (xa.f0 == 2) = false ∨ ((xa.f0 == 2) = true ∧ (xb.f0 == 2) = false) := by
   by_cases h1 : xa.f0 = 2
   ·exact .inr ⟨beq_iff_eq.2 h1, beq_eq_false_iff_ne.2 fun e => h ⟨h1, e⟩⟩
   ·exact .inl (beq_eq_false_iff_ne.2 h1)
  by_cases he : q.f1 = q.f2
  ·exact .inr (.inl ⟨hd, beq_iff_eq.2 he, if_pos he⟩)
  ·exact .inr (.inr ⟨hd, beq_eq_false_iff_ne.2 he, if_neg he⟩)
theorem knownF_cases (l : List S67) (q x : S67) (k : Nat) (h : k < l.length) (hx : qz l (k : Int) = x) :
  (((x.f0 != 6) = true ∨ ((x.f0 != 6) = false ∧ ((x.f1 != q.f1) = true ∨ ((x.f1 != q.f1) = false ∧ ((x.f2 != q.f2) = true ∨ ((x.f2 != q.f2) = false ∧ (wrap64 x.f3 == wrap64 q.f3) = false ∧ (wrap64 x.f3 == otherI (wrap64 q.f3)) = false)))))) ∧ knownF l q (l.drop k) = knownF l q (l.drop (k + 1))) ∨
  ((x.f0 != 6) = false ∧ (x.f1 != q.f1) = false ∧ (x.f2 != q.f2) = false ∧ (wrap64 x.f3 == wrap64 q.f3) = true ∧ knownF l q (l.drop k) = 1) ∨
  ((x.f0 != 6) = false ∧ (x.f1 != q.f1) = false ∧ (x.f2 != q.f2) = false ∧ (wrap64 x.f3 == wrap64 q.f3) = false ∧ (wrap64 x.f3 == otherI (wrap64 q.f3)) = true ∧ knownF l q (l.drop k) = 2) := by
 have hq : qz l (k : Int) = l[k] := by simp [qz, h]
 rw [List.drop_eq_getElem_cons h, ← hq, hx]
 show (_ ∧ (if _ then _ else if _ then _ else _) = _) ∨ (_ ∧ _ ∧ _ ∧ _ ∧ (if _ then _ else if _ then _ else _) = _) ∨ (_ ∧ _ ∧ _ ∧ _ ∧ _ ∧ (if _ then _ else if _ then _ else _) = _)
 by_cases h6 : x.f0 = 6
 case neg => exact .inl ⟨.inl (bne_iff_ne.2 h6), by rw [if_neg (fun e => h6 e.1), if_neg (fun e => h6 e.1)]⟩
 have b6 : (x.f0 != 6) = false := by rw [h6]; rfl
 by_cases h1 : x.f1 = q.f1
 case neg => exact .inl ⟨.inr ⟨b6, .inl (bne_iff_ne.2 h1)⟩, by rw [if_neg (fun e => h1 e.2.1), if_neg (fun e => h1 e.2.1)]⟩
 have b1 : (x.f1 != q.f1) = false := by rw [h1]; exact bne_self_eq_false _
 by_cases h2 : x.f2 = q.f2
 case neg => exact .inl ⟨.inr ⟨b6, .inr ⟨b1, .inl (bne_iff_ne.2 h2)⟩⟩, by rw [if_neg (fun e => h2 e.2.2.1), if_neg (fun e => h2 e.2.2.1)]⟩
 have b2 : (x.f2 != q.f2) = false := by rw [h2]; exact bne_self_eq_false _
 by_cases h3 : wrap64 x.f3 = wrap64 q.f3
 ·exact .inr (.inl ⟨b6, b1, b2, beq_iff_eq.2 h3, by rw [if_pos ⟨h6, h1, h2, h3⟩]⟩)
 ·have b3 : (wrap64 x.f3 == wrap64 q.f3) = false := beq_eq_false_iff_ne.2 h3
  by_cases h4 : wrap64 x.f3 = otherI (wrap64 q.f3)
  ·exact .inr (.inr ⟨b6, b1, b2, b3, beq_iff_eq.2 h4, by rw [if_neg (fun e => h3 e.2.2.2), if_pos ⟨h6, h1, h2, h4⟩]⟩)
  ·exact .inl ⟨.inr ⟨b6, .inr ⟨b1, .inr ⟨b2, b3, beq_eq_false_iff_ne.2 h4⟩⟩⟩, by rw [if_neg (fun e => h3 e.2.2.2), if_neg (fun e => h4 e.2.2.2)]⟩
theorem taken_b (n a b : Int) (w : World) : Calls Try.prog 126 #[.int .i64 n, .int .u32 a, .int .u32 b] w fun e w' => (∃ y, e = .returned (.tuple #[.bool (takenI n a b), .int .i64 y])) ∧ Drawn0 w w' :=
 (alu_Taken.calls _ _ _ _ _ w (taken_f n a b)).mono fun e w' h => ⟨⟨_, h.1⟩, h.2⟩
theorem told_b (T : Bool) (V : Int) (hV : V = (if T = true then 1 else 2)) (w : World) : Calls Try.prog 127 #[.bool T] w fun e w' => e = .returned (.int .i64 V) ∧ Drawn0 w w' := by
 rw [hV]
 exact guard_told.calls _ _ w (told_f T)
set_option maxHeartbeats 8000000 in
set_option maxRecDepth 100000 in
theorem gdknown_c (l : List S67) (hl : l.length ≤ 1000000) (q : S67) (gs gc : Nat) (A : Option Addr) (cc : Nat) (w : World) (g0 : w.cell? ⟨gs, 0, none⟩ = some (.pointer (some ⟨gc, 0, none⟩))) (g1 : w.cell? ⟨gc, 1, none⟩ = some (.slice A l.length cc)) (N : Nat) (ok : Nat → Prop) (hR : Kd.R k67 67 w N ok (.slice A l.length cc) l)
  (h1 : 0 ≤ q.f1 ∧ q.f1 < (l.length : Int)) (h2 : 0 ≤ q.f2 ∧ q.f2 < (l.length : Int)) :
  Calls Try.prog 107 #[.pointer (some ⟨gs, 0, none⟩), .agg #[.int .i64 q.f0, .int .i64 q.f1, .int .i64 q.f2, .int .u32 q.f3, .int .i64 q.f4, .int .i64 q.f5]] w fun e w' => e = .returned (.int .i64 (knownI l q)) ∧ Below w.heap.size w w' := by
 have hgs : gs < w.heap.size := World.block_lt_of_cell? w ⟨gs, 0, none⟩ g0
 have hgc : gc < w.heap.size := World.block_lt_of_cell? w ⟨gc, 1, none⟩ g1
 have hn0 : ¬ gs = w.heap.size := by omega
 have hn1 : ¬ gc = w.heap.size := by omega
 have hC := (Kd.R_reads' hR).2.2
 obtain ⟨gl, cap, hv, -, hgl, -⟩ := Kd.R_form hR (by omega)
 cases hv
 have HC := Lib.hid hC
 obtain ⟨ad, had, d0, d1, d2, d3, d4, d5⟩ := at_T67 hC q.f1 h1.1 h1.2
 cases had
 obtain ⟨ad', had, x0, x1, x2, x3, x4, x5⟩ := at_T67 hC q.f2 h2.1 h2.2
 cases had
 simp only [qI] at d0 d1 d2 d3 d4 d5 x0 x1 x2 x3 x4 x5
 have hl0 : ¬ gl = w.heap.size := by omega
 have hl1 : ¬ gl = w.heap.size + 1 := by omega
 have hl2 : ¬ gl = w.heap.size + 1 + 1 := by omega
 have hs1 : ¬ gs = w.heap.size + 1 := by omega
 have hs2 : ¬ gs = w.heap.size + 1 + 1 := by omega
 have hg1 : ¬ gc = w.heap.size + 1 := by omega
 have hg2 : ¬ gc = w.heap.size + 1 + 1 := by omega
 obtain ⟨p1, p2⟩ := h1
 obtain ⟨p3, p4⟩ := h2
 have hbw := bal (Below.refl w.heap.size w) (.cells #[.int .i64 q.f0, .int .i64 q.f1, .int .i64 q.f2, .int .u32 q.f3, .int .i64 q.f4, .int .i64 q.f5] 67)
 have g0' := cellk hbw g0
 have g1' := cellk hbw g1
 replace d0 := cellk hbw d0
 replace d1 := cellk hbw d1
 replace d2 := cellk hbw d2
 replace d3 := cellk hbw d3
 replace d4 := cellk hbw d4
 replace d5 := cellk hbw d5
 replace x0 := cellk hbw x0
 replace x1 := cellk hbw x1
 replace x2 := cellk hbw x2
 replace x3 := cellk hbw x3
 replace x4 := cellk hbw x4
 replace x5 := cellk hbw x5
 clear hC hbw hR
 obtain ⟨V, hV⟩ : ∃ V, V = knownI l q := ⟨_, rfl⟩
 rw [← hV]
 have HV := Lib.hid hV
 clear hV
 generalize hxa : qz l q.f1 = xa at *
 generalize hxb : qz l q.f2 = xb at *
 go_enter Try.func107, Try.ntmps107
 go_upto_region 1 with fail
 go_cut [5, 6] from 14 to 35 (fun va vb wx => ∃ ga gb, va = .pointer (some ⟨ga, 0, none⟩) ∧ vb = .pointer (some ⟨gb, 0, none⟩) ∧ Hid (Below w.heap.size w wx) ∧ wx.heap[ga]? = some (.cells #[.int .i64 xa.f0, .int .i64 xa.f1, .int .i64 xa.f2, .int .u32 xa.f3, .int .i64 xa.f4, .int .i64 xa.f5] 67 (0, 0)) ∧ wx.heap[gb]? = some (.cells #[.int .i64 xb.f0, .int .i64 xb.f1, .int .i64 xb.f2, .int .u32 xb.f3, .int .i64 xb.f4, .int .i64 xb.f5] 67 (0, 0)) ∧ wx.heap[w.heap.size]? = some (.cells #[.int .i64 q.f0, .int .i64 q.f1, .int .i64 q.f2, .int .u32 q.f3, .int .i64 q.f4, .int .i64 q.f5] 67 (0, 0)))
 case first =>
  go_region_held3 (fun w' => w'.cell? ⟨gs, 0, none⟩ = some (.pointer (some ⟨gc, 0, none⟩)) ∧ w'.cell? ⟨gc, 1, none⟩ = some (.slice (some ⟨gl, 0, none⟩) l.length cc) ∧ w'.cell? ⟨w.heap.size, 1, none⟩ = some (.int .i64 q.f1) ∧ w'.cell? ⟨w.heap.size, 2, none⟩ = some (.int .i64 q.f2) ∧ w'.cell? ⟨gl, q.f1.toNat * 6, none⟩ = some (.int .i64 xa.f0) ∧ w'.cell? ⟨gl, q.f1.toNat * 6 + 1, none⟩ = some (.int .i64 xa.f1) ∧ w'.cell? ⟨gl, q.f1.toNat * 6 + 2, none⟩ = some (.int .i64 xa.f2) ∧ w'.cell? ⟨gl, q.f1.toNat * 6 + 3, none⟩ = some (.int .u32 xa.f3) ∧ w'.cell? ⟨gl, q.f1.toNat * 6 + 4, none⟩ = some (.int .i64 xa.f4) ∧ w'.cell? ⟨gl, q.f1.toNat * 6 + 5, none⟩ = some (.int .i64 xa.f5) ∧ w'.cell? ⟨gl, q.f2.toNat * 6, none⟩ = some (.int .i64 xb.f0) ∧ w'.cell? ⟨gl, q.f2.toNat * 6 + 1, none⟩ = some (.int .i64 xb.f1) ∧ w'.cell? ⟨gl, q.f2.toNat * 6 + 2, none⟩ = some (.int .i64 xb.f2) ∧ w'.cell? ⟨gl, q.f2.toNat * 6 + 3, none⟩ = some (.int .u32 xb.f3) ∧ w'.cell? ⟨gl, q.f2.toNat * 6 + 4, none⟩ = some (.int .i64 xb.f4) ∧ w'.cell? ⟨gl, q.f2.toNat * 6 + 5, none⟩ = some (.int .i64 xb.f5)) (go_keep) (fail)
  all_goals
   go_wp2_with fail
   go_meet
   refine ⟨_, _, rfl, rfl, Lib.hid (by repeat (first | (with_reducible exact Below.refl _ _) | (with_reducible refine bal ?_ _) | (with_reducible refine bset ?_ (by simp; omega) _) | (with_reducible refine qL ?_) | (with_reducible refine bdn ?_ _))), ?_, ?_, ?_⟩
   all_goals repeat (first | (with_reducible refine qi ?_) | (with_reducible refine qg ?_ _))
   all_goals (first | (simp [go_sem]; done) | (exact qf (qf (qD _ _) _) _) | (exact qf (by simpa using qD (w.alloc _) _) _) | (exact (by simpa using qD ((w.alloc _).alloc _) _)) | (trace_state; sorry))
 case rest =>
  obtain ⟨ga, gb, rfl, rfl, HBC, ba, bb, b0⟩ := hcut
  have e0 := cellk HBC.out g0
  have e1 := cellk HBC.out g1
  have pa0 : wc.cell? ⟨ga, 0, none⟩ = some (.int .i64 xa.f0) := by rw [qb ba]; rfl
  have pa3 : wc.cell? ⟨ga, 3, none⟩ = some (.int .u32 xa.f3) := by rw [qb ba]; rfl
  have pb0 : wc.cell? ⟨gb, 0, none⟩ = some (.int .i64 xb.f0) := by rw [qb bb]; rfl
  have pb3 : wc.cell? ⟨gb, 3, none⟩ = some (.int .u32 xb.f3) := by rw [qb bb]; rfl
  have q1 : wc.cell? ⟨w.heap.size, 1, none⟩ = some (.int .i64 q.f1) := by rw [qb b0]; rfl
  have q2 : wc.cell? ⟨w.heap.size, 2, none⟩ = some (.int .i64 q.f2) := by rw [qb b0]; rfl
  have q3 : wc.cell? ⟨w.heap.size, 3, none⟩ = some (.int .u32 q.f3) := by rw [qb b0]; rfl
  have HCC := Lib.hid (Kd.qn HC.out HBC.out)
  have hcs := known_cases l q xa xb hxa hxb
  rw [← HV.out] at hcs
  clear ba bb b0 g0 g1 g0' g1' d0 d1 d2 d3 d4 d5 x0 x1 x2 x3 x4 x5 p1 p2 p3 p4 HC HV hxa hxb hl0 hl1 hl2 hs1 hs2 hg1 hg2 hn0 hn1
  rcases hcs with ⟨t1, t2, hv⟩ | ⟨hd, t3, hv⟩ | ⟨hd, t3, hv⟩
  ·have HTK := Lib.hid (fun v => taken_b (wrap64 q.f3) xa.f3 xb.f3 v)
   generalize takenI (wrap64 q.f3) xa.f3 xb.f3 = T at *
   have HTO := Lib.hid (fun v => told_b T V hv v)
   clear hv HCC
   go_wp2_with (first | (go_at_call 126; refine (HTK.out _).mono ?_; rintro e w' ⟨⟨y, rfl⟩, ⟨nd, rfl⟩⟩) | (go_at_call 127; refine (HTO.out _).mono ?_; rintro e w' ⟨rfl, ⟨nd, rfl⟩⟩))
   go_ret
   refine ⟨rfl, ?_⟩
   repeat (first | (with_reducible exact HBC.out) | (with_reducible refine bdn ?_ _))
  ·have HTK := Lib.hid (fun v => taken_b (wrap64 q.f3) 0 0 v)
   generalize takenI (wrap64 q.f3) 0 0 = T at *
   have HTO := Lib.hid (fun v => told_b T V hv v)
   clear hv HCC
   rcases hd with t1 | ⟨t1, t2⟩
   all_goals
    go_wp2_with (first | (go_at_call 126; refine (HTK.out _).mono ?_; rintro e w' ⟨⟨y, rfl⟩, ⟨nd, rfl⟩⟩) | (go_at_call 127; refine (HTO.out _).mono ?_; rintro e w' ⟨rfl, ⟨nd, rfl⟩⟩))
    go_ret
    refine ⟨rfl, ?_⟩
    repeat (first | (with_reducible exact HBC.out) | (with_reducible refine bdn ?_ _))
  ·have HV := Lib.hid hv
   clear hv
   rcases hd with t1 | ⟨t1, t2⟩
   all_goals
    go_wp2
    go_loopw [78] (fun i wr => ∃ k : Nat, k ≤ l.length ∧ i = .int .i64 k ∧ Hid (V = knownF l q (l.drop k)) ∧ Hid (Below wc.heap.size wc wr)) (fun i _ => l.length - (intOf i).toNat)
    case atStart => exact ⟨0, Nat.zero_le _, rfl, HV, Lib.hid (by repeat (first | (with_reducible exact Below.refl _ _) | (with_reducible refine bdn ?_ _)))⟩
    case round =>
     obtain ⟨k, hk, rfl, HW, HB⟩ := hrel
     have z1 := cellk HB.out q1
     have z2 := cellk HB.out q2
     have hz : w.heap.size < wr.heap.size := World.block_lt_of_cell? wr ⟨w.heap.size, 1, none⟩ z1
     have hzn : ¬ w.heap.size = wr.heap.size := by omega
     by_cases hlt : k < l.length
     ·obtain ⟨ad, had, d0, d1, d2, d3, d4, d5⟩ := at_T67 (Kd.qn HCC.out HB.out) (k : Int) (by omega) (by omega)
      cases had
      simp only [qI, Int.toNat_natCast] at d0 d1 d2 d3 d4 d5
      obtain ⟨x, hx⟩ : ∃ x, qz l (k : Int) = x := ⟨_, rfl⟩
      rw [hx] at d0 d1 d2 d3 d4 d5
      have hcs := knownF_cases l q x k hlt hx
      rw [← HW.out] at hcs
      clear hx HW HV
      rcases hcs with ⟨hd, hv⟩ | ⟨u6, u1, u2, u3, hv⟩ | ⟨u6, u1, u2, u3, u4, hv⟩
      ·have HV := Lib.hid hv
       clear hv
       rcases hd with u6 | ⟨u6, u1 | ⟨u1, u2 | ⟨u2, u3, u4⟩⟩⟩
       all_goals
        go_wp2_with (first | (go_at_call 37; refine (guard_Other.calls 1 _ _ _ (other_f _ 0)).mono ?_; rintro e w' ⟨rfl, ⟨nd, rfl⟩⟩))
        go_roundw
        case rel => exact ⟨k + 1, by omega, by go_num, HV, Lib.hid (by repeat (first | (with_reducible exact HB.out) | (with_reducible refine bal ?_ _) | (with_reducible refine bdn ?_ _)))⟩
        case measure => simp [intOf]; omega
      ·have HV := Lib.hid hv
       clear hv
       go_wp2_with fail
       go_ret
       refine ⟨by rw [HV.out]; rfl, bthen HBC.out ?_⟩
       repeat (first | (with_reducible exact HB.out) | (with_reducible refine bal ?_ _) | (with_reducible refine bdn ?_ _))
      ·have HV := Lib.hid hv
       clear hv
       go_wp2_with (first | (go_at_call 37; refine (guard_Other.calls 1 _ _ _ (other_f _ 0)).mono ?_; rintro e w' ⟨rfl, ⟨nd, rfl⟩⟩))
       go_ret
       refine ⟨by rw [HV.out]; rfl, bthen HBC.out ?_⟩
       repeat (first | (with_reducible exact HB.out) | (with_reducible refine bal ?_ _) | (with_reducible refine bdn ?_ _))
     ·have hke : k = l.length := by omega
      subst hke
      have hv := HW.out
      rw [List.drop_length] at hv
      have HV2 := Lib.hid hv
      clear hv
      go_wp2
      go_ret
      refine ⟨by rw [HV2.out]; rfl, bthen HBC.out ?_⟩
      repeat (first | (with_reducible exact HB.out) | (with_reducible refine bal ?_ _) | (with_reducible refine bdn ?_ _))
end Go.Proofs.Ythjgakoofmmloaa

namespace Go.Proofs.Ythjgakoofmmloaa
open Go.RowKit Go.Proofs.YthjgakoofmmloaaW.PrintWords Go.Proofs.YthjgakoofmmloaaW.PrintLast Go.Proofs.YthjgakoofmmloaaW.PrintMore Go.Proofs.Ythjgakoofmmloaa.PNumberDoes
set_option linter.unusedVariables false
set_option linter.unusedSimpArgs false

theorem known_range (l : List S67) (q : S67) : knownI l q = 0 ∨ knownI l q = 1 ∨ knownI l q = 2 := by
 have hF : ∀ r, knownF l q r = 0 ∨ knownF l q r = 1 ∨ knownF l q r = 2 := by
  intro r
  induction r with
  | nil => exact .inl rfl
  | cons x r ih =>
   show (if _ then _ else if _ then _ else _) = (0 : Int) ∨ (if _ then _ else if _ then _ else _) = (1 : Int) ∨ (if _ then _ else if _ then _ else _) = (2 : Int)
   split
   ·exact .inr (.inl rfl)
   split
   ·exact .inr (.inr rfl)
   ·exact ih
 unfold knownI
 split
 ·split
  ·exact .inr (.inl rfl)
  ·exact .inr (.inr rfl)
 split
 ·split
  ·exact .inr (.inl rfl)
  ·exact .inr (.inr rfl)
 ·exact hF l
def howI (l : List S67) (q : S67) : Int := if q.f0 = 6 then knownI l q else 0
theorem how_range (l : List S67) (q : S67) : howI l q = 0 ∨ howI l q = 1 ∨ howI l q = 2 := by
 unfold howI
 split
 ·exact known_range l q
 ·exact .inl rfl
theorem how_guard {l : List S67} {q : S67} (h : howI l q ≠ 0) : q.f0 = 6 := by
 unfold howI at h
 split at h
 ·assumption
 ·exact absurd rfl h
structure GSt where
 l : List S67
 tv : List Int
 last : Int
 en : Bool
section
variable (pg pe : Int → List Int)
def stepG (s : GSt) (o : S67) : GSt :=
 if s.en = true then s
 else if howI s.l (nmO s.tv o) = 2 then ⟨s.l, s.tv ++ pe (s.l.length : Int), o.f4, true⟩
 else if howI s.l (nmO s.tv o) = 1 then ⟨s.l, s.tv ++ pg (s.l.length : Int), s.last, false⟩
 else ⟨s.l ++ [nmO s.tv o], s.tv ++ [(s.l.length : Int)], s.last, false⟩
def runG (last : Int) (ops : List S67) : GSt := ops.foldl (stepG pg pe) ⟨[], [], last, false⟩
theorem runG_add (last : Int) (ops : List S67) (o : S67) : runG pg pe last (ops ++ [o]) = stepG pg pe (runG pg pe last ops) o := by
 unfold runG
 rw [List.foldl_append]
 rfl
theorem runG_take (last : Int) (ops : List S67) (k : Nat) (h : k < ops.length) : runG pg pe last (ops.take (k + 1)) = stepG pg pe (runG pg pe last (ops.take k)) ops[k] := by
 rw [List.take_succ_eq_append_getElem h, runG_add]
theorem stepG_en {s : GSt} (h : s.en = true) (o : S67) : stepG pg pe s o = s := by unfold stepG; rw [if_pos h]
theorem stepG_2 {s : GSt} (h : s.en = false) {o : S67} (h2 : howI s.l (nmO s.tv o) = 2) : stepG pg pe s o = ⟨s.l, s.tv ++ pe (s.l.length : Int), o.f4, true⟩ := by unfold stepG; rw [if_neg (by rw [h]; decide), if_pos h2]
theorem stepG_1 {s : GSt} (h : s.en = false) {o : S67} (h1 : howI s.l (nmO s.tv o) = 1) : stepG pg pe s o = ⟨s.l, s.tv ++ pg (s.l.length : Int), s.last, false⟩ := by unfold stepG; rw [if_neg (by rw [h]; decide), if_neg (by omega), if_pos h1]
theorem stepG_0 {s : GSt} (h : s.en = false) {o : S67} (h0 : howI s.l (nmO s.tv o) = 0) : stepG pg pe s o = ⟨s.l ++ [nmO s.tv o], s.tv ++ [(s.l.length : Int)], s.last, false⟩ := by unfold stepG; rw [if_neg (by rw [h]; decide), if_neg (by omega), if_neg (by omega)]
theorem runG_end (last : Int) (ops : List S67) (k : Nat) (h : (runG pg pe last (ops.take k)).en = true) : runG pg pe last ops = runG pg pe last (ops.take k) := by
 have hs : ∀ (xs : List S67) (s : GSt), s.en = true → xs.foldl (stepG pg pe) s = s := by
  intro xs
  induction xs with
  | nil => intro s _; rfl
  | cons x xs ih => intro s hs; rw [List.foldl_cons, stepG_en pg pe hs, ih s hs]
 conv => lhs; rw [← List.take_append_drop k ops]
 unfold runG
 rw [List.foldl_append]
 exact hs _ _ h
theorem runG_len (last : Int) (ops : List S67) : (runG pg pe last ops).l.length ≤ ops.length := by
 refine rev_ind (p := fun ops => (runG pg pe last ops).l.length ≤ ops.length) (Nat.le_refl _) (fun l x h => ?_) ops
 rw [runG_add, List.length_append]
 show _ ≤ l.length + 1
 unfold stepG
 split
 ·omega
 split
 ·show (runG pg pe last l).l.length ≤ _; omega
 split
 ·show (runG pg pe last l).l.length ≤ _; omega
 ·show ((runG pg pe last l).l ++ [_]).length ≤ _; rw [List.length_append]; show _ + 1 ≤ _; omega
end
def refN (ops : List S67) (n : Int) (k : Nat) : Prop := 0 ≤ n ∧ n < (k : Int) ∧ ∃ o, ops[n.toNat]? = some o ∧ 1 ≤ o.f0 ∧ o.f0 ≤ 4
def refO (ops : List S67) (o : S67) (k : Nat) : Prop := (o.f0 = 3 ∨ o.f0 = 4 ∨ o.f0 = 5 ∨ o.f0 = 6 → refN ops o.f1 k) ∧ (o.f0 = 3 ∨ o.f0 = 5 ∨ o.f0 = 6 → refN ops o.f2 k)
def refE (B : BlkV) (n : Int) (k : Nat) : Prop := 0 ≤ n ∧ n < (B.exits.length : Int) ∧ ∃ x, B.exits[n.toNat]? = some x ∧ (x.f2 = -1 ∨ refN B.ops x.f2 k) ∧ ∀ v ∈ x.f4, refN B.ops v.f1 k
theorem refN.mono {ops : List S67} {n : Int} {k m : Nat} (h : refN ops n k) (hk : k ≤ m) : refN ops n m := ⟨h.1, by have := h.2.1; omega, h.2.2⟩
theorem refN.add {ops : List S67} {n : Int} {k : Nat} (h : refN ops n k) (o : S67) : refN (ops ++ [o]) n k := by
 obtain ⟨h1, h2, x, hx, hc⟩ := h
 exact ⟨h1, h2, x, by rw [List.getElem?_append_left (List.getElem?_eq_some_iff.1 hx).1]; exact hx, hc⟩
theorem refN.take {ops : List S67} {n : Int} {k : Nat} (h : refN ops n k) : refN (ops.take k) n k := by
 obtain ⟨h1, h2, x, hx, hc⟩ := h
 exact ⟨h1, h2, x, by rw [List.getElem?_take, if_pos (by omega)]; exact hx, hc⟩
theorem refO.take {ops : List S67} {o : S67} {k : Nat} (h : refO ops o k) : refO (ops.take k) o k := ⟨fun q => (h.1 q).take, fun q => (h.2 q).take⟩
structure RightG (B : BlkV) : Prop where
 n : RightN B
 ops : ∀ (k : Nat) (o : S67), B.ops[k]? = some o → refO B.ops o k
 x4 : ∀ (k : Nat) (o : S67), B.ops[k]? = some o → o.f0 = 4 ∨ o.f0 = 5 ∨ o.f0 = 6 → refE B o.f4 k
 x5 : ∀ (k : Nat) (o : S67), B.ops[k]? = some o → o.f0 = 5 → refE B o.f5 k
 last : refE B B.last B.ops.length
theorem refN_of {B : BlkV} {n : Int} {k : Nat} (h : valB B n (k : Int) = true) : refN B.ops n k := by
 unfold valB at h
 simp only [Bool.and_eq_true, decide_eq_true_eq] at h
 obtain ⟨h1, h2, h3, h4⟩ := h
 have hn : B.ops[n.toNat]? = some B.ops[n.toNat] := List.getElem?_eq_getElem (by omega)
 rw [rdO_of (o := B.ops[n.toNat]) hn] at h4
 unfold valuedB at h4
 simp only [Bool.and_eq_true, decide_eq_true_eq] at h4
 exact ⟨h1, h2, _, hn, h4⟩
theorem rdX_of {l : List S73} {n : Int} {o : S73} (h : l[n.toNat]? = some o) : qJ l n = o := by
 unfold qJ
 rw [List.getD_eq_getElem?_getD, h]
 rfl
theorem refE_of {B : BlkV} {n : Int} {k : Nat} (h : exitB B n (k : Int) = true) : refE B n k := by
 unfold exitB at h
 simp only [Bool.and_eq_true, Bool.or_eq_true, decide_eq_true_eq, Bool.not_eq_true', List.any_eq_false] at h
 obtain ⟨h0, h1, h2, h3⟩ := h
 have hx : B.exits[n.toNat]? = some B.exits[n.toNat] := List.getElem?_eq_getElem (by omega)
 rw [rdX_of hx] at h2 h3
 refine ⟨h0, h1, _, hx, ?_, fun v hv => ?_⟩
 ·rcases h2 with h2 | h2
  ·exact .inl h2
  ·exact .inr (refN_of h2)
 ·have := h3 v hv
  unfold badB at this
  exact refN_of (by simpa using this)
theorem right_of {B : BlkV} (h : checkB B = 0) : rightB B = true := by
 unfold checkB at h
 split at h
 ·exact absurd h (by decide)
 ·split at h
  ·assumption
  ·exact absurd h (by decide)
theorem opB_at {B : BlkV} (h : rightB B = true) (k : Nat) (o : S67) (hk : B.ops[k]? = some o) : kindB o = true ∧ namedB o = true ∧ (∀ n ∈ usesL o, valB B n (k : Int) = true) ∧ (if o.f0 = 5 then exitB B o.f4 k && exitB B o.f5 k else if o.f0 = 4 ∨ o.f0 = 6 then exitB B o.f4 k else true) = true := by
 unfold rightB at h
 simp only [Bool.and_eq_true, List.all_eq_true, List.mem_range] at h
 have ho := h.1 k (List.getElem?_eq_some_iff.1 hk).1
 unfold opB at ho
 rw [rdO_of (o := o) (by simpa using hk)] at ho
 simp only [Bool.and_eq_true, List.all_eq_true] at ho
 exact ho
theorem rightG_of {B : BlkV} (h : checkB B = 0) : RightG B := by
 have hr := right_of h
 refine ⟨rightN_of h, fun k o hk => ?_, fun k o hk hc => ?_, fun k o hk hc => ?_, ?_⟩
 ·obtain ⟨-, -, hu, -⟩ := opB_at hr k o hk
  unfold usesL at hu
  constructor
  ·intro hc
   refine refN_of (hu _ ?_)
   split
   ·exact List.mem_cons_self
   ·rw [if_pos (by omega)]; exact List.mem_cons_self
  ·intro hc
   refine refN_of (hu _ ?_)
   rw [if_pos hc]
   exact List.mem_cons_of_mem _ List.mem_cons_self
 ·obtain ⟨-, -, -, hx⟩ := opB_at hr k o hk
  by_cases h5 : o.f0 = 5
  ·rw [if_pos h5, Bool.and_eq_true] at hx
   exact refE_of hx.1
  ·rw [if_neg h5, if_pos (by omega)] at hx
   exact refE_of hx
 ·obtain ⟨-, -, -, hx⟩ := opB_at hr k o hk
  rw [if_pos hc, Bool.and_eq_true] at hx
  exact refE_of hx.2
 ·unfold rightB at hr
  simp only [Bool.and_eq_true] at hr
  exact refE_of hr.2.2.2.2
structure RunG (ops : List S67) (last : Int) (s : GSt) : Prop where
 len : s.tv.length ≤ ops.length
 nen : s.en = false → s.tv.length = ops.length ∧ s.last = last
 yen : s.en = true → ∃ o, ops[s.tv.length]? = some o ∧ o.f0 = 6 ∧ s.last = o.f4
 code : ∀ (n : Nat) (o : S67), n < s.tv.length → ops[n]? = some o → 1 ≤ o.f0 ∧ o.f0 ≤ 4 → ∃ x, s.l[(rd s.tv (n : Int)).toNat]? = some x ∧ x.f0 = o.f0 ∧ 0 ≤ rd s.tv (n : Int)
 src : ∀ (p : Nat) (x : S67), s.l[p]? = some x → ∃ (k : Nat) (o : S67), ops[k]? = some o ∧ k < s.tv.length ∧ x = nmO s.tv o ∧ ∀ n : Int, refN ops n k → rd s.tv n < (p : Int)
 how : ∀ (p : Nat) (x : S67), s.l[p]? = some x → howI (s.l.take p) x = 0
theorem nmO_ref (tv : List Int) (x : Int) (o : S67) {ops : List S67} {k : Nat} (h : refO ops o k) (hk : k ≤ tv.length) : nmO (tv ++ [x]) o = nmO tv o :=
 nmO_app tv x o ⟨fun q => by have := h.1 q; have := this.2.1; have := (h.1 q).1; omega, fun q => by have := h.2 q; have := this.2.1; have := (h.2 q).1; omega⟩
theorem idx_last {α : Type} {l : List α} {x y : α} {n : Nat} (h : (l ++ [x])[n]? = some y) (hn : ¬ n < l.length) : n = l.length ∧ y = x := by
 have h1 : n < (l ++ [x]).length := (List.getElem?_eq_some_iff.1 h).1
 rw [List.length_append] at h1
 have h2 : n = l.length := by simp at h1; omega
 subst h2
 simp at h
 exact ⟨rfl, h.symm⟩
theorem idx_left {α : Type} {l : List α} {x y : α} {n : Nat} (h : (l ++ [x])[n]? = some y) (hn : n < l.length) : l[n]? = some y := by rwa [List.getElem?_append_left hn] at h
theorem idx_add {α : Type} {l : List α} (x : α) {y : α} {n : Nat} (h : l[n]? = some y) : (l ++ [x])[n]? = some y := by rw [List.getElem?_append_left (List.getElem?_eq_some_iff.1 h).1]; exact h
theorem runG_inv (last : Int) (ops : List S67) : (∀ (k : Nat) (o : S67), ops[k]? = some o → refO ops o k) → RunG ops last (runG (fun _ => [-1]) (fun _ => []) last ops) := by
 refine rev_ind (p := fun ops => (∀ (k : Nat) (o : S67), ops[k]? = some o → refO ops o k) → RunG ops last (runG (fun _ => [-1]) (fun _ => []) last ops)) (fun _ => ⟨Nat.le_refl _, fun _ => ⟨rfl, rfl⟩, fun h => (by cases h), fun n o h => absurd h (Nat.not_lt_zero _), fun p x h => by simp [runG] at h, fun p x h => by simp [runG] at h⟩) (fun ops o ih hn => ?_) ops
 have hb : ∀ {n : Int} {k : Nat}, k ≤ ops.length → refN (ops ++ [o]) n k → refN ops n k := by
  intro n k hk ⟨h1, h2, x, hx, hc⟩
  exact ⟨h1, h2, x, idx_left hx (by omega), hc⟩
 have hn1 : ∀ (k : Nat) (x : S67), ops[k]? = some x → refO ops x k := fun k x hx => by
  have hlt := (List.getElem?_eq_some_iff.1 hx).1
  have := hn k x (idx_add o hx)
  exact ⟨fun q => hb (by omega) (this.1 q), fun q => hb (by omega) (this.2 q)⟩
 have hno : refO ops o ops.length := by
  have := hn ops.length o (by simp)
  exact ⟨fun q => hb (Nat.le_refl _) (this.1 q), fun q => hb (Nat.le_refl _) (this.2 q)⟩
 have hi := ih hn1
 rw [runG_add]
 generalize runG (fun _ => [-1]) (fun _ => []) last ops = s at *
 rcases Bool.eq_false_or_eq_true s.en with he | he
 ·rw [stepG_en _ _ he]
  refine ⟨by rw [List.length_append]; exact Nat.le_trans hi.len (Nat.le_add_right _ _), fun h => (by rw [he] at h; cases h), fun _ => ?_, fun n x h hx => ?_, fun p x hp => ?_, hi.how⟩
  ·obtain ⟨y, hy, hz⟩ := hi.yen he
   exact ⟨y, idx_add o hy, hz⟩
  ·exact hi.code n x h (idx_left hx (Nat.lt_of_lt_of_le h hi.len))
  ·obtain ⟨k, y, hy, hk, hx, hr⟩ := hi.src p x hp
   exact ⟨k, y, idx_add o hy, hk, hx, fun n hn => hr n (hb (Nat.le_trans (Nat.le_of_lt hk) hi.len) hn)⟩
 obtain ⟨htl, hla⟩ := hi.nen he
 have hcode : ∀ (v : Int) (n : Nat) (y : S67), n < ops.length → (ops ++ [o])[n]? = some y → 1 ≤ y.f0 ∧ y.f0 ≤ 4 → ∃ x, s.l[(rd (s.tv ++ [v]) (n : Int)).toNat]? = some x ∧ x.f0 = y.f0 ∧ 0 ≤ rd (s.tv ++ [v]) (n : Int) := fun v n y hn hy hc => by
  rw [rd_app s.tv v _ (by omega) (by omega)]
  exact hi.code n y (by omega) (idx_left hy hn) hc
 have hsrc : ∀ (v : Int) (p : Nat) (x : S67), s.l[p]? = some x → ∃ (k : Nat) (y : S67), (ops ++ [o])[k]? = some y ∧ k < (s.tv ++ [v]).length ∧ x = nmO (s.tv ++ [v]) y ∧ ∀ n : Int, refN (ops ++ [o]) n k → rd (s.tv ++ [v]) n < (p : Int) := fun v p x hp => by
  obtain ⟨k, y, hy, hk, hx, hr⟩ := hi.src p x hp
  refine ⟨k, y, idx_add o hy, by rw [List.length_append]; omega, by rw [nmO_ref s.tv v y (hn1 k y hy) (Nat.le_of_lt hk)]; exact hx, fun n hn => ?_⟩
  have h1 := hb (by omega) hn
  rw [rd_app s.tv v n h1.1 (by have := h1.2.1; omega)]
  exact hr n h1
 rcases how_range s.l (nmO s.tv o) with h | h | h
 ·rw [stepG_0 _ _ he h]
  refine ⟨by simp; omega, fun _ => ⟨by simp; omega, hla⟩, fun q => (by cases q), fun n y hn hy hc => ?_, fun p x hp => ?_, fun p x hp => ?_⟩
  ·replace hn : n < (s.tv ++ [(s.l.length : Int)]).length := hn
   rw [List.length_append] at hn
   show ∃ x, (s.l ++ [_])[(rd (s.tv ++ [_]) (n : Int)).toNat]? = some x ∧ _
   by_cases e : n < ops.length
   ·obtain ⟨x, hx, hq⟩ := hcode (s.l.length : Int) n y e hy hc
    exact ⟨x, idx_add _ hx, hq⟩
   ·obtain ⟨rfl, rfl⟩ := idx_last hy e
    refine ⟨nmO s.tv y, ?_, nmO_code s.tv y, ?_⟩
    ·rw [← htl, rd_last, Int.toNat_natCast]; simp
    ·rw [← htl, rd_last]; omega
  ·replace hp : (s.l ++ [nmO s.tv o])[p]? = some x := hp
   by_cases e : p < s.l.length
   ·exact hsrc _ p x (idx_left hp e)
   ·obtain ⟨rfl, rfl⟩ := idx_last hp e
    refine ⟨ops.length, o, by simp, by show _ < (s.tv ++ [_]).length; rw [List.length_append]; show _ < _ + 1; omega, (nmO_ref s.tv _ o hno (by omega)).symm, fun n hn => ?_⟩
    have h1 := hb (Nat.le_refl _) hn
    show rd (s.tv ++ [_]) n < _
    rw [rd_app s.tv _ n h1.1 (by have := h1.2.1; omega)]
    obtain ⟨a, b, y, hy, hc⟩ := h1
    obtain ⟨x, hx, -, hq⟩ := hi.code n.toNat y (by omega) hy hc
    have hx2 := (List.getElem?_eq_some_iff.1 hx).1
    rw [show ((n.toNat : Nat) : Int) = n by omega] at hx2 hq
    omega
  ·replace hp : (s.l ++ [nmO s.tv o])[p]? = some x := hp
   show howI ((s.l ++ [_]).take p) x = 0
   by_cases e : p < s.l.length
   ·rw [List.take_append_of_le_length (Nat.le_of_lt e)]
    exact hi.how p x (idx_left hp e)
   ·obtain ⟨rfl, rfl⟩ := idx_last hp e
    rw [List.take_append_of_le_length (Nat.le_refl _), List.take_length]
    exact h
 ·rw [stepG_1 _ _ he h]
  refine ⟨by simp; omega, fun _ => ⟨by simp; omega, hla⟩, fun q => (by cases q), fun n y hn hy hc => ?_, fun p x hp => hsrc _ p x hp, fun p x hp => hi.how p x hp⟩
  replace hn : n < (s.tv ++ [(-1 : Int)]).length := hn
  rw [List.length_append] at hn
  by_cases e : n < ops.length
  ·exact hcode (-1) n y e hy hc
  ·obtain ⟨rfl, rfl⟩ := idx_last hy e
   have := how_guard (l := s.l) (q := nmO s.tv y) (by omega)
   rw [nmO_code] at this
   omega
 ·rw [stepG_2 _ _ he h]
  have g6 := how_guard (l := s.l) (q := nmO s.tv o) (by omega)
  rw [nmO_code] at g6
  have eT : (GSt.mk s.l (s.tv ++ []) o.f4 true).tv = s.tv := List.append_nil _
  refine ⟨by rw [eT]; simp; omega, fun q => (by cases q), fun _ => ⟨o, by rw [eT, htl]; simp, g6, rfl⟩, fun n y hn hy hc => ?_, fun p x hp => ?_, fun p x hp => hi.how p x hp⟩
  ·rw [eT] at hn ⊢
   exact hi.code n y hn (idx_left hy (by omega)) hc
  ·rw [eT]
   obtain ⟨k, y, hy, hk, hx, hr⟩ := hi.src p x hp
   exact ⟨k, y, idx_add o hy, hk, hx, fun n hn => hr n (hb (by omega) hn)⟩
end Go.Proofs.Ythjgakoofmmloaa

namespace Go.Proofs.Ythjgakoofmmloaa
open Go.RowKit Go.Proofs.YthjgakoofmmloaaW.PrintWords Go.Proofs.YthjgakoofmmloaaW.PrintLast Go.Proofs.YthjgakoofmmloaaW.PrintMore Go.Proofs.Ythjgakoofmmloaa.PNumberDoes
set_option linter.unusedVariables false
set_option linter.unusedSimpArgs false

abbrev runP (last : Int) (ops : List S67) : GSt := runG (fun _ => [-1]) (fun _ => []) last ops
def nmdB (l : List S67) (last n : Int) : Bool := decide (last = n) || l.any (fun o => (decide (4 ≤ o.f0) && decide (o.f4 = n)) || (decide (o.f0 = 5) && decide (o.f5 = n)))
def plcN (nm : Int → Bool) (k : Nat) : Nat := ((List.range k).filter (fun (i : Nat) => nm (i : Int))).length
def pxI (nm : Int → Bool) (n : Int) : Int := (plcN nm n.toNat : Int)
theorem plcN_succ (nm : Int → Bool) (k : Nat) : plcN nm (k + 1) = plcN nm k + (if nm (k : Int) = true then 1 else 0) := by
 unfold plcN
 rw [List.range_succ, List.filter_append, List.length_append]
 congr 1
 by_cases h : nm (k : Int) = true
 ·simp [h]
 ·simp [h]
def keptX (nm : Int → Bool) (es : List S73) (k : Nat) : List S73 := (List.range k).filterMap (fun (i : Nat) => if nm (i : Int) = true then es[i]? else none)
theorem keptX_succ (nm : Int → Bool) (es : List S73) (k : Nat) (h : k < es.length) : keptX nm es (k + 1) = keptX nm es k ++ (if nm (k : Int) = true then [es[k]] else []) := by
 unfold keptX
 rw [List.range_succ, List.filterMap_append]
 congr 1
 by_cases hn : nm (k : Int) = true
 ·simp [hn, h]
 ·simp [hn]
theorem keptX_len (nm : Int → Bool) (es : List S73) (k : Nat) : k ≤ es.length → (keptX nm es k).length = plcN nm k := by
 induction k with
 | zero => intro _; rfl
 | succ k ih =>
  intro h
  rw [keptX_succ nm es k h, List.length_append, ih (by omega), plcN_succ]
  split <;> rfl
theorem plcN_le (nm : Int → Bool) (k : Nat) : plcN nm k ≤ k := by
 unfold plcN
 have := List.length_filter_le (fun i : Nat => nm (i : Int)) (List.range k)
 rwa [List.length_range] at this
theorem plcN_mono (nm : Int → Bool) {a b : Nat} (h : a ≤ b) : plcN nm a ≤ plcN nm b := by
 induction b with
 | zero => rw [show a = 0 by omega]; exact Nat.le_refl _
 | succ b ih =>
  by_cases e : a = b + 1
  ·rw [e]; exact Nat.le_refl _
  ·rw [plcN_succ]
   have := ih (by omega)
   omega
theorem keptX_at (nm : Int → Bool) (es : List S73) (n : Nat) (hn : nm (n : Int) = true) : ∀ k, n < k → k ≤ es.length → (keptX nm es k)[plcN nm n]? = es[n]? := by
 intro k
 induction k with
 | zero => intro h; exact absurd h (Nat.not_lt_zero _)
 | succ k ih =>
  intro h hk
  rw [keptX_succ nm es k hk]
  by_cases e : n = k
  ·subst e
   rw [if_pos hn, List.getElem?_append_right (by rw [keptX_len nm es n (by omega)]; exact Nat.le_refl _), keptX_len nm es n (by omega), Nat.sub_self, List.getElem?_cons_zero, List.getElem?_eq_getElem hk]
  ·rw [← ih (by omega) (by omega), List.getElem?_append_left]
   rw [keptX_len nm es k (by omega)]
   have h1 := plcN_mono nm (show n + 1 ≤ k by omega)
   rw [plcN_succ, if_pos hn] at h1
   omega
theorem keptX_from (nm : Int → Bool) (es : List S73) (p : Nat) (x : S73) : ∀ k, k ≤ es.length → (keptX nm es k)[p]? = some x → ∃ n, n < k ∧ nm (n : Int) = true ∧ plcN nm n = p ∧ es[n]? = some x := by
 intro k
 induction k with
 | zero => intro _ h; simp [keptX] at h
 | succ k ih =>
  intro hk h
  rw [keptX_succ nm es k hk] at h
  by_cases e : p < (keptX nm es k).length
  ·rw [List.getElem?_append_left e] at h
   obtain ⟨n, h1, h2⟩ := ih (by omega) h
   exact ⟨n, by omega, h2⟩
  ·by_cases hn : nm (k : Int) = true
   ·rw [if_pos hn] at h
    obtain ⟨rfl, rfl⟩ := idx_last h e
    exact ⟨k, by omega, hn, (keptX_len nm es k (by omega)).symm, List.getElem?_eq_getElem hk⟩
   ·rw [if_neg hn, List.append_nil] at h
    exact absurd (List.getElem?_eq_some_iff.1 h).1 e
def reO (pl : Int → Int) (o : S67) : S67 := ⟨o.f0, o.f1, o.f2, o.f3, if 4 ≤ o.f0 then pl o.f4 else o.f4, if o.f0 = 5 then pl o.f5 else o.f5⟩
def endB (pcs : List Int) (exits : List S73) (s : GSt) : BlkV :=
 ⟨pcs, s.l.map (reO (pxI (nmdB s.l s.last))), (keptX (nmdB s.l s.last) exits exits.length).map (exN s.tv), pxI (nmdB s.l s.last) s.last⟩
def guardB (B : BlkV) : BlkV := endB B.pcs B.exits (runP B.last B.ops)
theorem nmdB_last (l : List S67) (last : Int) : nmdB l last last = true := by unfold nmdB; rw [decide_eq_true rfl, Bool.true_or]
theorem nmdB_x {l : List S67} {last : Int} {o : S67} (h : o ∈ l) (hc : 4 ≤ o.f0) : nmdB l last o.f4 = true := by
 unfold nmdB
 rw [Bool.or_eq_true, List.any_eq_true]
 exact .inr ⟨o, h, by simp [hc]⟩
theorem nmdB_y {l : List S67} {last : Int} {o : S67} (h : o ∈ l) (hc : o.f0 = 5) : nmdB l last o.f5 = true := by
 unfold nmdB
 rw [Bool.or_eq_true, List.any_eq_true]
 exact .inr ⟨o, h, by simp [hc]⟩
theorem nmdB_elim {l : List S67} {last n : Int} (h : nmdB l last n = true) : last = n ∨ ∃ o ∈ l, (4 ≤ o.f0 ∧ o.f4 = n) ∨ (o.f0 = 5 ∧ o.f5 = n) := by
 unfold nmdB at h
 rw [Bool.or_eq_true, List.any_eq_true] at h
 rcases h with h | ⟨o, ho, h⟩
 ·exact .inl (of_decide_eq_true h)
 ·refine .inr ⟨o, ho, ?_⟩
  simpa using h
theorem refE.mono {B : BlkV} {n : Int} {k m : Nat} (h : refE B n k) (hk : k ≤ m) : refE B n m := by
 obtain ⟨h1, h2, x, hx, h3, h4⟩ := h
 exact ⟨h1, h2, x, hx, h3.imp id fun q => q.mono hk, fun v hv => (h4 v hv).mono hk⟩
theorem named_ref {B : BlkV} (hR : RightG B) {n : Int} (h : nmdB (runP B.last B.ops).l (runP B.last B.ops).last n = true) : refE B n (runP B.last B.ops).tv.length := by
 have hi := runG_inv B.last B.ops hR.ops
 unfold runP at h ⊢
 generalize runG (fun _ => [-1]) (fun _ => []) B.last B.ops = s at *
 rcases nmdB_elim h with rfl | ⟨x, hx, hq⟩
 ·rcases Bool.eq_false_or_eq_true s.en with he | he
  ·obtain ⟨o, ho, h6, hl⟩ := hi.yen he
   rw [hl]
   exact hR.x4 _ o ho (by omega)
  ·obtain ⟨h1, h2⟩ := hi.nen he
   rw [h2, h1]
   exact hR.last
 ·obtain ⟨p, hp, rfl⟩ := List.getElem_of_mem hx
  obtain ⟨k, o, ho, hk, he, -⟩ := hi.src p _ (List.getElem?_eq_getElem hp)
  rw [he] at hq
  have hc := nmO_code s.tv o
  obtain ⟨q4, q5, -⟩ := nm_xy s.tv o
  have hcc := hR.n.code k o ho
  rw [hc, q4, q5] at hq
  rcases hq with ⟨h4, rfl⟩ | ⟨h5, rfl⟩
  ·exact (hR.x4 k o ho (by omega)).mono (Nat.le_of_lt hk)
  ·exact (hR.x5 k o ho h5).mono (Nat.le_of_lt hk)
theorem val_end {B : BlkV} (hR : RightG B) {n p : Int} {k : Nat} (hk : k ≤ (runP B.last B.ops).tv.length) (hr : refN B.ops n k) (hp : rd (runP B.last B.ops).tv n < p) : valB (guardB B) (rd (runP B.last B.ops).tv n) p = true := by
 have hi := runG_inv B.last B.ops hR.ops
 unfold guardB
 unfold runP at hk hp ⊢
 generalize runG (fun _ => [-1]) (fun _ => []) B.last B.ops = s at *
 obtain ⟨h1, h2, o, ho, hc⟩ := hr
 obtain ⟨x, hx, hxc, h0⟩ := hi.code n.toNat o (by omega) ho hc
 rw [show ((n.toNat : Nat) : Int) = n by omega] at hx h0
 have hlt := (List.getElem?_eq_some_iff.1 hx).1
 have hx2 : (s.l.map (reO (pxI (nmdB s.l s.last))))[(rd s.tv n).toNat]? = some (reO (pxI (nmdB s.l s.last)) x) := by rw [List.getElem?_map, hx]; rfl
 unfold valB valuedB
 simp only [Bool.and_eq_true, decide_eq_true_eq]
 refine ⟨h0, hp, ?_, ?_⟩
 ·show _ < ((s.l.map _).length : Int)
  rw [List.length_map]
  omega
 ·show 1 ≤ (qz (s.l.map _) _).f0 ∧ (qz (s.l.map _) _).f0 ≤ 4
  rw [rdO_of hx2]
  show 1 ≤ x.f0 ∧ x.f0 ≤ 4
  rw [hxc]
  exact hc
theorem exit_end {B : BlkV} (hR : RightG B) {n p : Int} {k : Nat} (hk : k ≤ (runP B.last B.ops).tv.length) (hm : nmdB (runP B.last B.ops).l (runP B.last B.ops).last n = true) (hr : refE B n k) (hp : ∀ v : Int, refN B.ops v k → rd (runP B.last B.ops).tv v < p) :
  exitB (guardB B) (pxI (nmdB (runP B.last B.ops).l (runP B.last B.ops).last) n) p = true ∧ ∃ x, B.exits[n.toNat]? = some x ∧ (guardB B).exits[(pxI (nmdB (runP B.last B.ops).l (runP B.last B.ops).last) n).toNat]? = some (exN (runP B.last B.ops).tv x) := by
 have hv := fun (v : Int) (h : refN B.ops v k) => val_end hR (p := p) hk h (hp v h)
 obtain ⟨h0, h1, x, hx, h2, h4⟩ := hr
 have hat := keptX_at (nmdB (runP B.last B.ops).l (runP B.last B.ops).last) B.exits n.toNat (by rw [show ((n.toNat : Nat) : Int) = n by omega]; exact hm) B.exits.length (by omega) (Nat.le_refl _)
 rw [hx] at hat
 have hE : (guardB B).exits[(pxI (nmdB (runP B.last B.ops).l (runP B.last B.ops).last) n).toNat]? = some (exN (runP B.last B.ops).tv x) := by
  unfold pxI
  rw [Int.toNat_natCast]
  show ((keptX _ _ _).map (exN _))[_]? = _
  rw [List.getElem?_map, hat]
  rfl
 refine ⟨?_, x, hx, hE⟩
 unfold exitB
 simp only [Bool.and_eq_true, Bool.or_eq_true, decide_eq_true_eq, Bool.not_eq_true', List.any_eq_false]
 rw [rdX_of hE]
 refine ⟨by unfold pxI; omega, ?_, ?_, ?_⟩
 ·have := (List.getElem?_eq_some_iff.1 hE).1
  unfold pxI at this ⊢
  omega
 ·unfold exN
  by_cases e : x.f2 = -1
  ·exact .inl (if_pos e)
  ·right
   show valB (guardB B) (if _ then _ else _) p = true
   rw [if_neg e]
   exact hv _ (h2.resolve_left e)
 ·intro v hv'
  obtain ⟨u, hu, rfl⟩ := List.mem_map.1 (show v ∈ x.f4.map (fun v => (⟨v.f0, rd (runP B.last B.ops).tv v.f1⟩ : S70)) from hv')
  unfold badB
  have := hv _ (h4 u hu)
  simpa using this
theorem kindB_re (pl : Int → Int) (o : S67) : kindB (reO pl o) = kindB o := rfl
theorem namedB_re (pl : Int → Int) (o : S67) (hc : o.f0 ≤ 6) : namedB (reO pl o) = namedB o := by
 unfold namedB reO
 by_cases h5 : o.f0 = 5
 ·simp [h5]
 by_cases h6 : o.f0 = 6
 ·simp [h6]
 by_cases h3 : o.f0 = 3
 ·simp [h3]
 by_cases h4 : o.f0 = 4
 ·simp [h4]
 ·have : ¬ 4 ≤ o.f0 := by omega
  simp [h3, h4, h5, h6, this]
theorem uses_re (pl : Int → Int) (o : S67) : usesL (reO pl o) = usesL o := rfl
theorem uses_ref {ops : List S67} {o : S67} {k : Nat} (h : refO ops o k) : ∀ n ∈ usesL o, refN ops n k := by
 intro n hn
 unfold usesL at hn
 by_cases h3 : o.f0 = 3 ∨ o.f0 = 5 ∨ o.f0 = 6
 ·rw [if_pos h3] at hn
  rcases List.mem_cons.1 hn with rfl | hn
  ·exact h.1 (by omega)
  ·rw [List.mem_singleton.1 hn]; exact h.2 h3
 ·rw [if_neg h3] at hn
  by_cases h4 : o.f0 = 4
  ·rw [if_pos h4] at hn
   rw [List.mem_singleton.1 hn]; exact h.1 (by omega)
  ·rw [if_neg h4] at hn; cases hn
theorem guard_check {B : BlkV} (h : checkB B = 0) : checkB (guardB B) = 0 := by
 have hR := rightG_of h
 have hr := right_of h
 have hi := runG_inv B.last B.ops hR.ops
 have hlen := runG_len (fun _ => [-1]) (fun _ => []) B.last B.ops
 have hxe := fun (n p : Int) (k : Nat) => exit_end hR (n := n) (p := p) (k := k)
 have hve := fun (n p : Int) (k : Nat) => val_end hR (n := n) (p := p) (k := k)
 have hnr := fun (n : Int) => named_ref hR (n := n)
 have hsz := hR.n.lo
 have hsz2 := hR.n.le
 have hsz3 := hR.n.lp
 have eO : (guardB B).ops = (runP B.last B.ops).l.map (reO (pxI (nmdB (runP B.last B.ops).l (runP B.last B.ops).last))) := rfl
 have eX : (guardB B).exits = (keptX (nmdB (runP B.last B.ops).l (runP B.last B.ops).last) B.exits B.exits.length).map (exN (runP B.last B.ops).tv) := rfl
 have eL : (guardB B).last = pxI (nmdB (runP B.last B.ops).l (runP B.last B.ops).last) (runP B.last B.ops).last := rfl
 have eP : (guardB B).pcs = B.pcs := rfl
 unfold runP at *
 generalize runG (fun _ => [-1]) (fun _ => []) B.last B.ops = s at *
 generalize hnm : nmdB s.l s.last = nm at *
 have hval : ∀ v : Int, refN B.ops v s.tv.length → rd s.tv v < (s.l.length : Int) := fun v hv => by
  obtain ⟨h1, h2, o, ho, hc⟩ := hv
  obtain ⟨x, hx, -, h0⟩ := hi.code v.toNat o (by omega) ho hc
  rw [show ((v.toNat : Nat) : Int) = v by omega] at hx h0
  have := (List.getElem?_eq_some_iff.1 hx).1
  omega
 have el : (guardB B).ops.length = s.l.length := by rw [eO, List.length_map]
 have hel : (guardB B).exits.length ≤ B.exits.length := by
  rw [eX, List.length_map, keptX_len _ _ _ (Nat.le_refl _)]
  exact plcN_le _ _
 unfold checkB
 rw [if_neg (by rw [el, eP]; omega), if_pos]
 unfold rightB
 simp only [Bool.and_eq_true, List.all_eq_true, List.mem_range]
 have hr' := hr
 unfold rightB at hr'
 simp only [Bool.and_eq_true, List.all_eq_true, List.mem_range] at hr'
 obtain ⟨r1, r2, r3, r4, r5⟩ := hr'
 refine ⟨fun p hp => ?_, fun n hn => ?_, by rw [eP]; exact r3, by rw [eP]; exact r4, ?_⟩
 ·rw [el] at hp
  have hx := List.getElem?_eq_getElem hp
  generalize s.l[p] = x at hx
  obtain ⟨k, o, ho, hk, he, hb⟩ := hi.src p x hx
  obtain ⟨o1, o2, o3, o4⟩ := opB_at hr k o ho
  have hcc := hR.n.code k o ho
  have href := hR.ops k o ho
  have hq : qz (guardB B).ops (p : Int) = reO (pxI nm) x := rdO_of (by rw [eO, Int.toNat_natCast, List.getElem?_map, hx]; rfl)
  obtain ⟨n4, n5, -⟩ := nm_xy s.tv o
  have hmem : x ∈ s.l := List.mem_of_getElem? hx
  have hc : x.f0 = o.f0 := by rw [he]; exact nmO_code s.tv o
  unfold opB
  rw [hq, kindB_re, namedB_re _ _ (by omega), uses_re]
  simp only [Bool.and_eq_true, List.all_eq_true]
  refine ⟨by rw [he, kindB_nm]; exact o1, by rw [he, namedB_nm]; exact o2, fun y hy => ?_, ?_⟩
  ·rw [he, uses_nm] at hy
   obtain ⟨n, hn, rfl⟩ := List.mem_map.1 hy
   have := uses_ref href n hn
   exact hve n p k (Nat.le_of_lt hk) this (hb n this)
  ·show (if x.f0 = 5 then exitB (guardB B) (if 4 ≤ x.f0 then pxI nm x.f4 else x.f4) p && exitB (guardB B) (if x.f0 = 5 then pxI nm x.f5 else x.f5) p else if x.f0 = 4 ∨ x.f0 = 6 then exitB (guardB B) (if 4 ≤ x.f0 then pxI nm x.f4 else x.f4) p else true) = true
   by_cases h5 : x.f0 = 5
   ·rw [if_pos h5, if_pos (by omega), if_pos h5, Bool.and_eq_true]
    have m4 := nmdB_x (last := s.last) hmem (by omega)
    have m5 := nmdB_y (last := s.last) hmem h5
    rw [hnm] at m4 m5
    exact ⟨(hxe _ p k (Nat.le_of_lt hk) m4 (by rw [he, n4]; exact hR.x4 k o ho (by omega)) hb).1, (hxe _ p k (Nat.le_of_lt hk) m5 (by rw [he, n5]; exact hR.x5 k o ho (by omega)) hb).1⟩
   ·rw [if_neg h5]
    by_cases h4 : x.f0 = 4 ∨ x.f0 = 6
    ·rw [if_pos h4, if_pos (by omega)]
     have m4 := nmdB_x (last := s.last) hmem (by omega)
     rw [hnm] at m4
     exact (hxe _ p k (Nat.le_of_lt hk) m4 (by rw [he, n4]; exact hR.x4 k o ho (by omega)) hb).1
    ·rw [if_neg h4]
 ·have hx := List.getElem?_eq_getElem hn
  generalize (guardB B).exits[n] = y at hx
  have hx0 := hx
  rw [eX, List.getElem?_map] at hx
  rcases hkx : (keptX nm B.exits B.exits.length)[n]? with _ | x
  ·rw [hkx] at hx; cases hx
  ·rw [hkx] at hx
   have hy : exN s.tv x = y := by simpa using hx
   subst hy
   obtain ⟨m, m1, m2, m3, m4⟩ := keptX_from nm B.exits n x _ (Nat.le_refl _) hkx
   have hE := hxe (m : Int) (s.l.length : Int) s.tv.length (Nat.le_refl _) m2 (hnr _ m2) hval
   rw [show pxI nm (m : Int) = (n : Int) by unfold pxI; rw [Int.toNat_natCast, m3]] at hE
   have hq : qJ (guardB B).exits (n : Int) = exN s.tv x := rdX_of (by rw [Int.toNat_natCast]; exact hx0)
   have hl := r2 m m1
   unfold leavesB at hl ⊢
   rw [hq]
   rw [show qJ B.exits (m : Int) = x from rdX_of (by rw [Int.toNat_natCast]; exact m4)] at hl
   simp only [Bool.and_eq_true] at hl ⊢
   obtain ⟨-, l2, l3, l4, l5, l6, l7⟩ := hl
   refine ⟨by rw [el]; exact hE.1, l2, by rw [eP]; exact l3, l4, l5, l6, ?_⟩
   rw [show (exN s.tv x).f4 = x.f4.map (fun v => (⟨v.f0, rd s.tv v.f1⟩ : S70)) from rfl, rising_nm]
   exact l7
 ·have m := nmdB_last s.l s.last
  rw [hnm] at m
  rw [eL, el]
  exact (hxe _ _ _ (Nat.le_refl _) m (hnr _ m) hval).1
theorem rd_range (n : Nat) (i : Int) (h0 : 0 ≤ i) (h1 : i < (n : Int)) : rd ((List.range n).map (fun i : Nat => (i : Int))) i = i := by
 unfold rd
 rw [List.getD_eq_getElem?_getD, List.getElem?_map, List.getElem?_range (by omega)]
 simp
 omega
theorem nmO_range {n k : Nat} {o : S67} (h : namedO o k) (hk : k ≤ n) : nmO ((List.range n).map (fun i : Nat => (i : Int))) o = o := by
 unfold nmO
 by_cases h3 : o.f0 = 3 ∨ o.f0 = 5 ∨ o.f0 = 6
 ·obtain ⟨a, b⟩ := h.1 (by omega)
  obtain ⟨c, d⟩ := h.2 h3
  rw [if_pos h3, rd_range n _ a (by omega), rd_range n _ c (by omega)]
 ·rw [if_neg h3]
  by_cases h4 : o.f0 = 4
  ·obtain ⟨a, b⟩ := h.1 (by omega)
   rw [if_pos h4, rd_range n _ a (by omega)]
  ·rw [if_neg h4]
theorem guard_stays (last : Int) (l : List S67) : (∀ (p : Nat) (o : S67), l[p]? = some o → namedO o p ∧ howI (l.take p) o = 0) → runP last l = ⟨l, (List.range l.length).map (fun i : Nat => (i : Int)), last, false⟩ := by
 refine rev_ind (p := fun l => (∀ (p : Nat) (o : S67), l[p]? = some o → namedO o p ∧ howI (l.take p) o = 0) → runP last l = ⟨l, (List.range l.length).map (fun i : Nat => (i : Int)), last, false⟩) (fun _ => rfl) (fun l o ih h => ?_) l
 have hi := ih fun p x hx => by
  have hlt := (List.getElem?_eq_some_iff.1 hx).1
  have := h p x (idx_add o hx)
  rw [List.take_append_of_le_length (Nat.le_of_lt hlt)] at this
  exact this
 obtain ⟨h1, h2⟩ := h l.length o (by simp)
 rw [List.take_append_of_le_length (Nat.le_refl _), List.take_length] at h2
 unfold runP at hi ⊢
 rw [runG_add, hi, stepG_0 _ _ rfl (by show howI l (nmO _ o) = 0; rw [nmO_range h1 (Nat.le_refl _)]; exact h2)]
 show (⟨l ++ [nmO _ o], _ ++ [_], last, false⟩ : GSt) = _
 rw [nmO_range h1 (Nat.le_refl _), List.length_append, show l.length + [o].length = l.length + 1 from rfl, List.range_succ, List.map_append]
 rfl
theorem knownF_re (pl : Int → Int) (q : S67) (l l' : List S67) : ∀ r : List S67, knownF l' (reO pl q) (r.map (reO pl)) = knownF l q r := by
 intro r
 induction r with
 | nil => rfl
 | cons x r ih =>
  show (if _ then _ else if _ then _ else knownF l' (reO pl q) (r.map (reO pl))) = (if _ then _ else if _ then _ else knownF l q r)
  rw [ih]
  rfl
theorem rdO_map (f : S67 → S67) (l : List S67) (n : Int) (h0 : 0 ≤ n) (h1 : n < (l.length : Int)) : qz (l.map f) n = f (qz l n) := by
 have hx : l[n.toNat]? = some l[n.toNat] := List.getElem?_eq_getElem (by omega)
 rw [rdO_of hx]
 exact rdO_of (by rw [List.getElem?_map, hx]; rfl)
theorem how_re (pl : Int → Int) (l : List S67) (q : S67) (h : namedO q l.length) : howI (l.map (reO pl)) (reO pl q) = howI l q := by
 unfold howI
 show (if q.f0 = 6 then _ else _) = _
 by_cases h6 : q.f0 = 6
 ·rw [if_pos h6, if_pos h6]
  obtain ⟨a, b⟩ := h.1 (by omega)
  obtain ⟨c, d⟩ := h.2 (by omega)
  unfold knownI
  show (if (qz _ q.f1).f0 = 2 ∧ (qz _ q.f2).f0 = 2 then (if takenI _ (qz _ q.f1).f3 (qz _ q.f2).f3 = true then _ else _) else if q.f1 = q.f2 then _ else _) = _
  rw [rdO_map _ l _ a b, rdO_map _ l _ c d, knownF_re pl q l]
  rfl
 ·rw [if_neg h6, if_neg h6]
theorem guard_again {B : BlkV} (h : checkB B = 0) : guardB (guardB B) = guardB B := by
 have hR := rightG_of h
 have hi := runG_inv B.last B.ops hR.ops
 have hR2 := rightG_of (guard_check h)
 have eO : (guardB B).ops = (runP B.last B.ops).l.map (reO (pxI (nmdB (runP B.last B.ops).l (runP B.last B.ops).last))) := rfl
 have eX : (guardB B).exits = (keptX (nmdB (runP B.last B.ops).l (runP B.last B.ops).last) B.exits B.exits.length).map (exN (runP B.last B.ops).tv) := rfl
 have eL : (guardB B).last = pxI (nmdB (runP B.last B.ops).l (runP B.last B.ops).last) (runP B.last B.ops).last := rfl
 have hst : runP (guardB B).last (guardB B).ops = ⟨(guardB B).ops, (List.range (guardB B).ops.length).map (fun i : Nat => (i : Int)), (guardB B).last, false⟩ := by
  refine guard_stays _ _ fun p o hp => ⟨hR2.n.ops p o hp, ?_⟩
  have hnm := hR2.n.ops p o hp
  rw [eO, List.getElem?_map] at hp
  rcases hx : (runP B.last B.ops).l[p]? with _ | x
  ·rw [hx] at hp; cases hp
  ·rw [hx] at hp
   have hy : reO (pxI (nmdB (runP B.last B.ops).l (runP B.last B.ops).last)) x = o := by simpa using hp
   subst hy
   have hlt := (List.getElem?_eq_some_iff.1 hx).1
   rw [eO, ← List.map_take, how_re]
   ·exact hi.how p x hx
   ·rw [List.length_take, Nat.min_eq_left (Nat.le_of_lt hlt)]
    exact hnm
 have hnamed : ∀ n : Nat, n < (guardB B).exits.length → nmdB (guardB B).ops (guardB B).last (n : Int) = true := fun n hn => by
  rw [eX, List.length_map] at hn
  obtain ⟨m, m1, m2, m3, -⟩ := keptX_from _ _ n _ _ (Nat.le_refl _) (List.getElem?_eq_getElem hn)
  have em : pxI (nmdB (runP B.last B.ops).l (runP B.last B.ops).last) (m : Int) = (n : Int) := by unfold pxI; rw [Int.toNat_natCast, m3]
  rcases nmdB_elim m2 with e | ⟨x, hx, hq⟩
  ·rw [← em, ← e, ← eL]
   exact nmdB_last _ _
  ·have hmem : reO (pxI (nmdB (runP B.last B.ops).l (runP B.last B.ops).last)) x ∈ (guardB B).ops := by rw [eO]; exact List.mem_map_of_mem hx
   rcases hq with ⟨h4, e⟩ | ⟨h5, e⟩
   ·have := nmdB_x (last := (guardB B).last) hmem h4
    rw [show (reO (pxI (nmdB (runP B.last B.ops).l (runP B.last B.ops).last)) x).f4 = (n : Int) from by show (if 4 ≤ x.f0 then _ else _) = _; rw [if_pos h4, e, em]] at this
    exact this
   ·have := nmdB_y (last := (guardB B).last) hmem h5
    rw [show (reO (pxI (nmdB (runP B.last B.ops).l (runP B.last B.ops).last)) x).f5 = (n : Int) from by show (if x.f0 = 5 then _ else _) = _; rw [if_pos h5, e, em]] at this
    exact this
 generalize guardB B = C at *
 have hpl : ∀ k : Nat, k ≤ C.exits.length → plcN (nmdB C.ops C.last) k = k := by
  intro k
  induction k with
  | zero => intro _; rfl
  | succ k ih => intro hk; rw [plcN_succ, ih (by omega), if_pos (hnamed k (by omega))]
 have hpx : ∀ n : Int, 0 ≤ n → n < (C.exits.length : Int) → pxI (nmdB C.ops C.last) n = n := fun n h0 h1 => by
  unfold pxI
  rw [hpl n.toNat (by omega)]
  omega
 have hkx : ∀ k : Nat, k ≤ C.exits.length → keptX (nmdB C.ops C.last) C.exits k = C.exits.take k := by
  intro k
  induction k with
  | zero => intro _; simp [keptX]
  | succ k ih => intro hk; rw [keptX_succ _ _ k hk, ih (by omega), if_pos (hnamed k (by omega)), List.take_succ_eq_append_getElem hk]
 unfold guardB
 rw [hst]
 unfold endB
 simp only []
 rw [hkx _ (Nat.le_refl _), List.take_length]
 have e1 : C.ops.map (reO (pxI (nmdB C.ops C.last))) = C.ops := by
  conv => rhs; rw [← List.map_id C.ops]
  refine List.map_congr_left fun o ho => ?_
  obtain ⟨k, hk, rfl⟩ := List.getElem_of_mem ho
  have hx := List.getElem?_eq_getElem hk
  generalize C.ops[k] = o at *
  have hcc := hR2.n.code k o hx
  show reO _ o = o
  have e4 : (if 4 ≤ o.f0 then pxI (nmdB C.ops C.last) o.f4 else o.f4) = o.f4 := by
   by_cases h4 : 4 ≤ o.f0
   ·have := hR2.x4 k o hx (by omega)
    rw [if_pos h4, hpx _ this.1 this.2.1]
   ·rw [if_neg h4]
  have e5 : (if o.f0 = 5 then pxI (nmdB C.ops C.last) o.f5 else o.f5) = o.f5 := by
   by_cases h5 : o.f0 = 5
   ·have := hR2.x5 k o hx h5
    rw [if_pos h5, hpx _ this.1 this.2.1]
   ·rw [if_neg h5]
  unfold reO
  rw [e4, e5]
 have e2 : C.exits.map (exN ((List.range C.ops.length).map (fun i : Nat => (i : Int)))) = C.exits := by
  conv => rhs; rw [← List.map_id C.exits]
  refine List.map_congr_left fun x hx => ?_
  obtain ⟨k, hk, rfl⟩ := List.getElem_of_mem hx
  have hx := List.getElem?_eq_getElem hk
  generalize C.exits[k] = x at *
  have ht := hR2.n.tv k x hx
  have hm := hR2.n.map k x hx
  show exN _ x = x
  unfold exN
  have e1 : (if x.f2 = -1 then (-1 : Int) else rd ((List.range C.ops.length).map (fun i : Nat => (i : Int))) x.f2) = x.f2 := by
   by_cases e : x.f2 = -1
   ·rw [if_pos e, e]
   ·obtain ⟨a, b⟩ := ht.resolve_left e
    rw [if_neg e, rd_range _ _ a b]
  have e2 : x.f4.map (fun v => (⟨v.f0, rd ((List.range C.ops.length).map (fun i : Nat => (i : Int))) v.f1⟩ : S70)) = x.f4 := by
   conv => rhs; rw [← List.map_id x.f4]
   refine List.map_congr_left fun v hv => ?_
   obtain ⟨a, b⟩ := hm v hv
   rw [rd_range _ _ a b]
   rfl
  rw [e1, e2]
 rw [e1, e2, hpx _ hR2.last.1 hR2.last.2.1]
def manyN (l : List S67) : Nat := (l.filter (fun o => decide (o.f0 = 6))).length
theorem manyN_add (l : List S67) (o : S67) : manyN (l ++ [o]) = manyN l + (if o.f0 = 6 then 1 else 0) := by
 unfold manyN
 rw [List.filter_append, List.length_append]
 congr 1
 by_cases h : o.f0 = 6
 ·simp [h]
 ·simp [h]
theorem manyN_re (f : S67 → S67) (hf : ∀ o, (f o).f0 = o.f0) (l : List S67) : manyN (l.map f) = manyN l := by
 refine rev_ind (p := fun l => manyN (l.map f) = manyN l) rfl (fun l o ih => ?_) l
 rw [List.map_append, List.map_singleton, manyN_add, manyN_add, ih, hf]
theorem guard_many (B : BlkV) : manyN (guardB B).ops ≤ manyN B.ops := by
 show manyN ((runP B.last B.ops).l.map (reO _)) ≤ _
 rw [manyN_re (reO (pxI (nmdB (runP B.last B.ops).l (runP B.last B.ops).last))) (fun o => rfl)]
 generalize B.last = last
 unfold runP
 refine rev_ind (p := fun ops => manyN (runG (fun _ => [-1]) (fun _ => []) last ops).l ≤ manyN ops) (Nat.le_refl _) (fun l x h => ?_) B.ops
 rw [runG_add, manyN_add]
 unfold stepG
 split
 ·omega
 split
 ·show manyN (runG (fun _ => [-1]) (fun _ => []) last l).l ≤ _; omega
 split
 ·show manyN (runG (fun _ => [-1]) (fun _ => []) last l).l ≤ _; omega
 ·show manyN ((runG (fun _ => [-1]) (fun _ => []) last l).l ++ [_]) ≤ _
  rw [manyN_add, nmO_code]
  omega
theorem guard_exits (B : BlkV) : (guardB B).exits.length ≤ B.exits.length := by
 show ((keptX _ _ _).map _).length ≤ _
 rw [List.length_map, keptX_len _ _ _ (Nat.le_refl _)]
 exact plcN_le _ _
end Go.Proofs.Ythjgakoofmmloaa

namespace Go.Proofs.Ythjgakoofmmloaa
open Go.RowKit Go.Proofs.YthjgakoofmmloaaW.PrintWords Go.Proofs.YthjgakoofmmloaaW.PrintLast Go.Proofs.YthjgakoofmmloaaW.PrintMore Go.Proofs.Ythjgakoofmmloaa.PNumberDoes
set_option linter.unusedVariables false
set_option linter.unusedSimpArgs false

structure GdS (N : Nat) (B : BlkV) (wr : World) (gs gc : Nat) (v0 vt : Value) (l : List S67) (tv : List Int) (v1 : Value) : Prop where
 bs : wr.heap[gs]? = some (.cells #[.pointer (some ⟨gc, 0, none⟩), vt] 112 (0, 0))
 bc : wr.heap[gc]? = some (.cells #[v0, v1, .slice none 0 0, .int .i64 0] 76 (0, 0))
 ns : N ≤ gs
 nc : N ≤ gc
 p : PartP N B v0 wr
 l : Kd.R k67 67 wr N (fun _ => True) v1 l
 t : Kd.R (Kd.int .i64) 3 wr N (fun _ => True) vt tv
section
variable {N : Nat} {B : BlkV} {wr w1 : World} {gs gc : Nat} {v0 v1 v1' vt vt' : Value} {l l' : List S67} {tv tv' : List Int}
theorem GdS.s0 (h : GdS N B wr gs gc v0 vt l tv v1) : wr.cell? ⟨gs, 0, none⟩ = some (.pointer (some ⟨gc, 0, none⟩)) := by rw [qb h.bs]; rfl
theorem GdS.s1 (h : GdS N B wr gs gc v0 vt l tv v1) : wr.cell? ⟨gs, 1, none⟩ = some vt := by rw [qb h.bs]; rfl
theorem GdS.c1 (h : GdS N B wr gs gc v0 vt l tv v1) : wr.cell? ⟨gc, 1, none⟩ = some v1 := by rw [qb h.bc]; rfl
theorem GdS.fs (h : GdS N B wr gs gc v0 vt l tv v1) (i : Nat) : wr.frozen? ⟨gs, i, none⟩ = false := qa h.bs i
theorem GdS.fc (h : GdS N B wr gs gc v0 vt l tv v1) (i : Nat) : wr.frozen? ⟨gc, i, none⟩ = false := qa h.bc i
theorem GdS.lts (h : GdS N B wr gs gc v0 vt l tv v1) : gs < wr.heap.size := qG h.bs
theorem GdS.ltc (h : GdS N B wr gs gc v0 vt l tv v1) : gc < wr.heap.size := qG h.bc
theorem GdS.ne (h : GdS N B wr gs gc v0 vt l tv v1) : gs ≠ gc := blk_ne h.bs h.bc (by decide)
theorem GdS.below (h : GdS N B wr gs gc v0 vt l tv v1) (hb : Below wr.heap.size wr w1) : GdS N B w1 gs gc v0 vt l tv v1 :=
 ⟨qo h.bs hb, qo h.bc hb, h.ns, h.nc, Kd.qO h.p hb, Kd.qO h.l hb, Kd.qO h.t hb⟩
structure GdQ (N : Nat) (B : BlkV) (wr : World) (gs gc : Nat) (v0 vt vt' : Value) (l : List S67) (tv : List Int) (v1 v1' : Value) : Prop where
 bs : wr.heap[gs]? = some (.cells #[.pointer (some ⟨gc, 0, none⟩), vt] 112 (0, 0))
 bc : wr.heap[gc]? = some (.cells #[v0, v1, .slice none 0 0, .int .i64 0] 76 (0, 0))
 ns : N ≤ gs
 nc : N ≤ gc
 p : PartP N B v0 wr
 l : Kd.R k67 67 wr N (fun _ => True) v1' l
 t : Kd.R (Kd.int .i64) 3 wr N (fun _ => True) vt' tv
theorem GdS.overT (h : GdS N B wr gs gc v0 vt l tv v1) (ht : Kd.R (Kd.int .i64) 3 w1 N (fun _ => True) vt' tv') (hg : wr.grownBy w1 vt.ownBlock) : GdQ N B w1 gs gc v0 vt vt' l tv' v1 v1 :=
 ⟨qM h.bs hg (Kd.R_ne h.t h.bs (by decide)), qM h.bc hg (Kd.R_ne h.t h.bc (by decide)), h.ns, h.nc, Kd.R_over' h.p (Kd.R_typed h.t) (by decide) hg, Kd.R_over h.l h.t (by decide) hg, ht⟩
theorem GdS.overL (h : GdS N B wr gs gc v0 vt l tv v1) (hl : Kd.R k67 67 w1 N (fun _ => True) v1' l') (hg : wr.grownBy w1 v1.ownBlock) : GdQ N B w1 gs gc v0 vt vt l' tv v1 v1' :=
 ⟨qM h.bs hg (Kd.R_ne h.l h.bs (by decide)), qM h.bc hg (Kd.R_ne h.l h.bc (by decide)), h.ns, h.nc, Kd.R_over' h.p (Kd.R_typed h.l) (by decide) hg, hl, Kd.R_over h.t h.l (by decide) hg⟩
theorem GdQ.s0 (h : GdQ N B wr gs gc v0 vt vt' l tv v1 v1') : wr.cell? ⟨gs, 0, none⟩ = some (.pointer (some ⟨gc, 0, none⟩)) := by rw [qb h.bs]; rfl
theorem GdQ.s1 (h : GdQ N B wr gs gc v0 vt vt' l tv v1 v1') : wr.cell? ⟨gs, 1, none⟩ = some vt := by rw [qb h.bs]; rfl
theorem GdQ.c1 (h : GdQ N B wr gs gc v0 vt vt' l tv v1 v1') : wr.cell? ⟨gc, 1, none⟩ = some v1 := by rw [qb h.bc]; rfl
theorem GdQ.fs (h : GdQ N B wr gs gc v0 vt vt' l tv v1 v1') (i : Nat) : wr.frozen? ⟨gs, i, none⟩ = false := qa h.bs i
theorem GdQ.fc (h : GdQ N B wr gs gc v0 vt vt' l tv v1 v1') (i : Nat) : wr.frozen? ⟨gc, i, none⟩ = false := qa h.bc i
theorem GdQ.ne (h : GdQ N B wr gs gc v0 vt vt' l tv v1 v1') : gs ≠ gc := blk_ne h.bs h.bc (by decide)
theorem GdQ.setT (h : GdQ N B wr gs gc v0 vt vt' l tv v1 v1) : GdS N B (wr.setCell ⟨gs, 1, none⟩ vt') gs gc v0 vt' l tv v1 :=
 ⟨qC h.bs 1 vt', qp h.bc h.ne.symm vt', h.ns, h.nc, Kd.R_set h.p h.bs (by decide) 1 _, Kd.R_set h.l h.bs (by decide) 1 _, Kd.R_set h.t h.bs (by decide) 1 _⟩
theorem GdQ.setL (h : GdQ N B wr gs gc v0 vt vt l tv v1 v1') : GdS N B (wr.setCell ⟨gc, 1, none⟩ v1') gs gc v0 vt l tv v1' :=
 ⟨qp h.bs h.ne v1', qC h.bc 1 v1', h.ns, h.nc, Kd.R_set h.p h.bc (by decide) 1 _, Kd.R_set h.l h.bc (by decide) 1 _, Kd.R_set h.t h.bc (by decide) 1 _⟩
end
theorem runP_step {last : Int} {ops : List S67} {k : Nat} (h : k < ops.length) {l : List S67} {tv : List Int} (hP : runP last (ops.take k) = ⟨l, tv, last, false⟩) :
  (howI l (nmO tv ops[k]) = 0 ∧ runP last (ops.take (k + 1)) = ⟨l ++ [nmO tv ops[k]], tv ++ [(l.length : Int)], last, false⟩) ∨ (howI l (nmO tv ops[k]) = 1 ∧ runP last (ops.take (k + 1)) = ⟨l, tv ++ [-1], last, false⟩) ∨ (howI l (nmO tv ops[k]) = 2 ∧ runP last ops = ⟨l, tv, (nmO tv ops[k]).f4, true⟩) := by
 have e : runP last (ops.take (k + 1)) = stepG (fun _ => [-1]) (fun _ => []) ⟨l, tv, last, false⟩ ops[k] := by
  unfold runP at hP ⊢
  rw [runG_take _ _ last ops k h, hP]
 rcases how_range l (nmO tv ops[k]) with hh | hh | hh
 ·exact .inl ⟨hh, by rw [e, stepG_0 _ _ rfl hh]⟩
 ·exact .inr (.inl ⟨hh, by rw [e, stepG_1 _ _ rfl hh]⟩)
 ·refine .inr (.inr ⟨hh, ?_⟩)
  rw [stepG_2 _ _ rfl hh, List.append_nil] at e
  have e2 := runG_end (fun _ => [-1]) (fun _ => []) last ops (k + 1) (by show (runP last (ops.take (k + 1))).en = true; rw [e])
  show runG _ _ last ops = _
  rw [e2]
  show runP last (ops.take (k + 1)) = _
  rw [e, (nm_xy tv ops[k]).1]
theorem named_bnd {B : BlkV} (hR : RightG B) {k : Nat} (hk : k < B.ops.length) {l : List S67} {tv : List Int} (hP : runP B.last (B.ops.take k) = ⟨l, tv, B.last, false⟩) :
  tv.length = k ∧ l.length ≤ k ∧ ((nmO tv B.ops[k]).f0 = 6 → (0 ≤ (nmO tv B.ops[k]).f1 ∧ (nmO tv B.ops[k]).f1 < (l.length : Int)) ∧ (0 ≤ (nmO tv B.ops[k]).f2 ∧ (nmO tv B.ops[k]).f2 < (l.length : Int))) := by
 have hi := runG_inv B.last (B.ops.take k) fun j o ho => by
  rw [List.getElem?_take] at ho
  split at ho
  ·rename_i hj
   have := hR.ops j o ho
   exact ⟨fun q => by obtain ⟨a, b, y, hy, hc⟩ := this.1 q; exact ⟨a, b, y, by rw [List.getElem?_take, if_pos (by omega)]; exact hy, hc⟩, fun q => by obtain ⟨a, b, y, hy, hc⟩ := this.2 q; exact ⟨a, b, y, by rw [List.getElem?_take, if_pos (by omega)]; exact hy, hc⟩⟩
  ·cases ho
 have hl := runG_len (fun _ => [-1]) (fun _ => []) B.last (B.ops.take k)
 unfold runP at hP
 rw [hP] at hi hl
 have hlk : (B.ops.take k).length = k := by rw [List.length_take]; omega
 obtain ⟨h1, -⟩ := hi.nen rfl
 rw [hlk] at h1 hl
 refine ⟨h1, hl, fun h6 => ?_⟩
 rw [nmO_code] at h6
 have hO := hR.ops k _ (List.getElem?_eq_getElem hk)
 have hv : ∀ n : Int, refN B.ops n k → 0 ≤ rd tv n ∧ rd tv n < (l.length : Int) := fun n hn => by
  obtain ⟨a, b, y, hy, hc⟩ := hn
  obtain ⟨x, hx, -, h0⟩ := hi.code n.toNat y (by show _ < tv.length; rw [show tv.length = k from h1]; omega) (by rw [List.getElem?_take, if_pos (by omega)]; exact hy) hc
  rw [show ((n.toNat : Nat) : Int) = n by omega] at hx h0
  have := (List.getElem?_eq_some_iff.1 hx).1
  replace this : (rd tv n).toNat < l.length := this
  replace h0 : 0 ≤ rd tv n := h0
  omega
 unfold nmO
 rw [if_pos (by omega)]
 exact ⟨hv _ (hO.1 (by omega)), hv _ (hO.2 (by omega))⟩
set_option maxHeartbeats 8000000 in
set_option maxRecDepth 100000 in
theorem gdthrough_c (B : BlkV) (hR : RightG B) (bg gs gc : Nat) (v0 : Value) (w0 w : World) (hB : BlockAt w0 bg B) (hb0 : Below w0.heap.size w0 w) (H : GdS w0.heap.size B w gs gc v0 (.slice none 0 0) [] [] (.slice none 0 0)) :
  Calls Try.prog 77 #[.pointer (some ⟨gs, 0, none⟩), .pointer (some ⟨bg, 0, none⟩)] w fun e w' => (e = .returned (.int .i64 (runP B.last B.ops).last) ∧ ∃ vt v1, Hid (GdS w0.heap.size B w' gs gc v0 vt (runP B.last B.ops).l (runP B.last B.ops).tv v1)) ∧ Below w0.heap.size w0 w' := by
 obtain ⟨Ab, cb, ub, kb⟩ := hB.ops
 have ul := hB.last
 have HKB := Lib.hid kb
 have f1 := hb0.cell (World.block_lt_of_cell? _ _ ub) |>.trans ub
 have f3 := hb0.cell (World.block_lt_of_cell? _ _ ul) |>.trans ul
 have HO := Lib.hid (show ∀ (k : Nat) (h : k < B.ops.length) (n : Nat), n = k → (B.ops[k].f0 = 3 ∨ B.ops[k].f0 = 4 ∨ B.ops[k].f0 = 5 ∨ B.ops[k].f0 = 6 → 0 ≤ B.ops[k].f1 ∧ B.ops[k].f1 < (n : Int)) ∧ (B.ops[k].f0 = 3 ∨ B.ops[k].f0 = 5 ∨ B.ops[k].f0 = 6 → 0 ≤ B.ops[k].f2 ∧ B.ops[k].f2 < (n : Int)) from fun k h n hn => hR.n.named k h n hn)
 have HBD := Lib.hid (fun (k : Nat) (hk : k < B.ops.length) (l : List S67) (tv : List Int) => named_bnd hR hk (l := l) (tv := tv))
 have hlo := hR.n.lo
 have H0 := Lib.hid H
 have HB0 := Lib.hid hb0
 clear kb hB ub ul hb0 H hR
 go_enter Try.func77, Try.ntmps77
 go_wp2
 go_step3
 go_wp2
 go_step3
 go_wp2
 go_loopw [5, 18] (fun la i wr => ∃ k : Nat, k ≤ B.ops.length ∧ la = .int .i64 B.last ∧ i = .int .i64 k ∧ ∃ vt v1 l tv, Hid (runP B.last (B.ops.take k) = ⟨l, tv, B.last, false⟩) ∧ Hid (GdS w0.heap.size B wr gs gc v0 vt l tv v1) ∧ Hid (Below w0.heap.size w0 wr)) (fun _ i _ => B.ops.length - (intOf i).toNat)
 case atStart => exact ⟨0, Nat.zero_le _, rfl, rfl, _, _, [], [], Lib.hid rfl, H0, HB0⟩
 case round =>
  obtain ⟨k, hk, rfl, rfl, vt, v1, l, tv, HP, HS, HB⟩ := hrel
  by_cases hlt : k < B.ops.length
  ·obtain ⟨ad, had, d0, d1, d2, d3, d4, d5⟩ := at_T67 (Kd.qn HKB.out HB.out) (k : Int) (by omega) (by omega)
   cases had
   have hq : qz B.ops (k : Int) = B.ops[k] := by simp [qz, hlt]
   obtain ⟨htl, hll, hgb⟩ := HBD.out k hlt l tv HP.out
   obtain ⟨n1, n2⟩ := HO.out k hlt tv.length htl
   have hst := runP_step hlt HP.out
   rw [← hq] at hgb n1 n2 hst
   simp only [Int.toNat_natCast] at d0 d1 d2 d3 d4 d5
   clear hq HP H0 HB0 f1 f3
   generalize qz B.ops (k : Int) = o at *
   obtain ⟨A2, c2, rfl, hlc2, -⟩ := Kd.R_reads HS.out.t
   obtain ⟨A1, c1, rfl, hlc1, -⟩ := Kd.R_reads HS.out.l
   have HNM := Lib.hid (fun v (hb : Below wr.heap.size wr v) => gdnames_c w0.heap.size gs A2 c2 tv (fun _ => True) v (HS.out.below hb).s1 (HS.out.below hb).t o n1 n2)
   have HKN := Lib.hid (fun v (hb : Below wr.heap.size wr v) (h6 : (nmO tv o).f0 = 6) => gdknown_c l (by omega) (nmO tv o) gs gc A1 c1 v (HS.out.below hb).s0 (HS.out.below hb).c1 w0.heap.size _ (HS.out.below hb).l (hgb h6).1 (hgb h6).2)
   have hH6 : (nmO tv o).f0 = 6 → knownI l (nmO tv o) = howI l (nmO tv o) := fun h => by unfold howI; rw [if_pos h]
   have hHn : (nmO tv o).f0 ≠ 6 → howI l (nmO tv o) = 0 := fun h => by unfold howI; rw [if_neg h]
   have HLT := Lib.hid (show (tv.length + 1) * 8 ≤ 140737488355328 ∧ (l.length + 1) * 48 ≤ 140737488355328 ∧ k + 1 ≤ B.ops.length by omega)
   have HLE1 := Lib.hid (show (tv ++ [(l.length : Int)]).length = tv.length + 1 by simp)
   have HLE2 := Lib.hid (show (tv ++ [(-1 : Int)]).length = tv.length + 1 by simp)
   clear n1 n2 hgb htl hll
   generalize nmO tv o = q at *
   generalize howI l q = H at *
   have hm := HS.out.lts
   have hmc := HS.out.ltc
   have hmn : ¬ gs = wr.heap.size := by omega
   have hmcn : ¬ gc = wr.heap.size := by omega
   have HSZ := Lib.hid HB.out.size
   go_wp2_with fail
   refine (HNM.out _ (bal (Below.refl _ _) _)).mono ?_
   rintro e w1 ⟨rfl, hb1⟩
   have HB1 := Lib.hid (bthen (bal (Below.refl wr.heap.size wr) _) hb1)
   have b1 := qo (qD wr _) hb1
   obtain ⟨f0, f1, f2, f3, f4, f5⟩ := q
   simp only at hst hH6 hHn HKN
   have z0 : w1.cell? ⟨wr.heap.size, 0, none⟩ = some (.int .i64 o.f0) := by rw [qb b1]; rfl
   have j0 : w1.frozen? ⟨wr.heap.size, 0, none⟩ = false := qa b1 0
   have z1 : w1.cell? ⟨wr.heap.size, 1, none⟩ = some (.int .i64 o.f1) := by rw [qb b1]; rfl
   have j1 : w1.frozen? ⟨wr.heap.size, 1, none⟩ = false := qa b1 1
   have z2 : w1.cell? ⟨wr.heap.size, 2, none⟩ = some (.int .i64 o.f2) := by rw [qb b1]; rfl
   have j2 : w1.frozen? ⟨wr.heap.size, 2, none⟩ = false := qa b1 2
   have z3 : w1.cell? ⟨wr.heap.size, 3, none⟩ = some (.int .u32 o.f3) := by rw [qb b1]; rfl
   have j3 : w1.frozen? ⟨wr.heap.size, 3, none⟩ = false := qa b1 3
   have z4 : w1.cell? ⟨wr.heap.size, 4, none⟩ = some (.int .i64 o.f4) := by rw [qb b1]; rfl
   have j4 : w1.frozen? ⟨wr.heap.size, 4, none⟩ = false := qa b1 4
   have z5 : w1.cell? ⟨wr.heap.size, 5, none⟩ = some (.int .i64 o.f5) := by rw [qb b1]; rfl
   have j5 : w1.frozen? ⟨wr.heap.size, 5, none⟩ = false := qa b1 5
   have HBB := Lib.hid (qC (qC (qC (qC (qC (qC b1 0 (.int .i64 f0)) 1 (.int .i64 f1)) 2 (.int .i64 f2)) 3 (.int .u32 f3)) 4 (.int .i64 f4)) 5 (.int .i64 f5))
   have HBL := Lib.hid (bset (bset (bset (bset (bset (bset HB1.out (p := ⟨wr.heap.size, 0, none⟩) (Nat.le_refl _) (.int .i64 f0)) (p := ⟨wr.heap.size, 1, none⟩) (Nat.le_refl _) (.int .i64 f1)) (p := ⟨wr.heap.size, 2, none⟩) (Nat.le_refl _) (.int .i64 f2)) (p := ⟨wr.heap.size, 3, none⟩) (Nat.le_refl _) (.int .u32 f3)) (p := ⟨wr.heap.size, 4, none⟩) (Nat.le_refl _) (.int .i64 f4)) (p := ⟨wr.heap.size, 5, none⟩) (Nat.le_refl _) (.int .i64 f5))
   clear hb1 b1 HNM d0 d1 d2 d3 d4 d5 HB1
   go_upto_region 6 with fail
   generalize hW : ((((((w1.setCell ⟨wr.heap.size, 0, none⟩ (.int .i64 f0)).setCell ⟨wr.heap.size, 1, none⟩ (.int .i64 f1)).setCell ⟨wr.heap.size, 2, none⟩ (.int .i64 f2)).setCell ⟨wr.heap.size, 3, none⟩ (.int .u32 f3)).setCell ⟨wr.heap.size, 4, none⟩ (.int .i64 f4)).setCell ⟨wr.heap.size, 5, none⟩ (.int .i64 f5)) = W at *
   have hb2 : W.heap[wr.heap.size]? = some (.cells #[.int .i64 f0, .int .i64 f1, .int .i64 f2, .int .u32 f3, .int .i64 f4, .int .i64 f5] 67 (0, 0)) := HBB.out
   clear hW z0 z1 z2 z3 z4 z5 j0 j1 j2 j3 j4 j5 HBB
   have y0 : W.cell? ⟨wr.heap.size, 0, none⟩ = some (.int .i64 f0) := by rw [qb hb2]; rfl
   have y1 : W.cell? ⟨wr.heap.size, 1, none⟩ = some (.int .i64 f1) := by rw [qb hb2]; rfl
   have y2 : W.cell? ⟨wr.heap.size, 2, none⟩ = some (.int .i64 f2) := by rw [qb hb2]; rfl
   have y3 : W.cell? ⟨wr.heap.size, 3, none⟩ = some (.int .u32 f3) := by rw [qb hb2]; rfl
   have y4 : W.cell? ⟨wr.heap.size, 4, none⟩ = some (.int .i64 f4) := by rw [qb hb2]; rfl
   have y5 : W.cell? ⟨wr.heap.size, 5, none⟩ = some (.int .i64 f5) := by rw [qb hb2]; rfl
   go_upto_if 27 with fail
   go_cut [8] from 27 to 30 (fun vh wx => vh = .int .i64 H ∧ Hid (Below wr.heap.size wr wx) ∧ wx.heap[wr.heap.size]? = some (.cells #[.int .i64 f0, .int .i64 f1, .int .i64 f2, .int .u32 f3, .int .i64 f4, .int .i64 f5] 67 (0, 0)))
   case first =>
    clear hst HS HB HKB HO HBD
    by_cases h6 : f0 = 6
    ·have t6 : (f0 == 6) = true := beq_iff_eq.2 h6
     have HK := Lib.hid (HKN.out _ HBL.out h6)
     rw [hH6 h6] at HK
     clear hH6 hHn h6 HKN
     go_wp2_with fail
     refine HK.out.mono ?_
     rintro e w2 ⟨rfl, hb3⟩
     have HBX := Lib.hid (bthen HBL.out hb3)
     have bx := qo hb2 hb3
     clear hb3 HK
     go_wp2
     go_meet
     exact ⟨rfl, HBX, bx⟩
    ·have t6 : (f0 == 6) = false := beq_eq_false_iff_ne.2 h6
     have hH := hHn h6
     subst hH
     clear hH6 hHn h6 HKN
     go_wp2_with fail
     go_meet
     exact ⟨rfl, HBL, hb2⟩
   case rest =>
    obtain ⟨rfl, HBX, bx⟩ := hcut
    clear hb2 y0 y1 y2 y3 y4 y5 HBL HKN hH6 hHn
    have HS1 := Lib.hid (HS.out.below HBX.out)
    have HN1 := Lib.hid (HB.out.trans (HBX.out.mono HSZ.out))
    have x0 : wc.cell? ⟨wr.heap.size, 0, none⟩ = some (.int .i64 f0) := by rw [qb bx]; rfl
    have x4 : wc.cell? ⟨wr.heap.size, 4, none⟩ = some (.int .i64 f4) := by rw [qb bx]; rfl
    have e0 := HS1.out.s0
    have e1 := HS1.out.s1
    have e2 := HS1.out.c1
    have e3 := HS1.out.fs 1
    have hms := HS1.out.lts
    have hmg := HS1.out.ltc
    have hnn := HS1.out.ne
    have hns : ¬ gs = gc := hnn
    have HNT := Lib.hid (show some wr.heap.size ≠ (Value.slice A2 tv.length c2).ownBlock from fun e => absurd (Kd.R_lt HS.out.t _ e.symm) (Nat.lt_irrefl _))
    have HNL := Lib.hid (show some wr.heap.size ≠ (Value.slice A1 l.length c1).ownBlock from fun e => absurd (Kd.R_lt HS.out.l _ e.symm) (Nat.lt_irrefl _))
    have hxs := qG bx
    rcases hst with ⟨rfl, hst⟩ | ⟨rfl, hst⟩ | ⟨rfl, hst⟩
    ·have HST := Lib.hid hst
     clear hst
     have HS1' := Lib.hid (HS1.out.below (bdn (Below.refl _ _) 1))
     have HN1' := Lib.hid (bthen HN1.out (bdn (Below.refl _ _) 1))
     go_upto_region 14 with fail
     go_cut [] from 47 to 63 (fun wx => (∃ A3 c3, Hid (GdS w0.heap.size B wx gs gc v0 (.slice A3 (tv.length + 1) c3) l (tv ++ [(l.length : Int)]) (.slice A1 l.length c1))) ∧ wx.heap[wr.heap.size]? = some (.cells #[.int .i64 f0, .int .i64 f1, .int .i64 f2, .int .u32 f3, .int .i64 f4, .int .i64 f5] 67 (0, 0)) ∧ Hid (Below w0.heap.size w0 wx))
     case first =>
      go_region_law (refine Kd.R_append_step (Kd.int .i64) (w0 := w0) w0.heap.size rfl (.tmp 51) (.tmp 60) 81 3 (.int .i64 0) 8 rfl Try.underlying81 infoInt rfl (by decide) (by decide) (.slice A2 tv.length c2) tv (l.length : Int) [.int .i64 (l.length : Int)] (fun _ => True) (fun _ => False) rfl rfl (by exact rfl) (fun _ hk => hk.elim) (fun _ _ => trivial) HS1'.out.t HN1'.out HN1'.out.size HLT.out.1 ?_; intro v3 w3 ho3 hb3 hg3 hat3; obtain ⟨A3, c3, hv3⟩ := Kd.R_slice ho3; rw [HLE1.out] at hv3; subst hv3; have HS3 := Lib.hid (HS1'.out.overT ho3 hg3); have e5 := HS3.out.s1; have e6 := HS3.out.fs 1; have e7 := HS3.out.s0; have e8 := HS3.out.c1; have HBX3 := Lib.hid ((hg3.block wr.heap.size hxs HNT.out).trans bx); have HB3 := Lib.hid hb3; clear ho3 hb3 hg3 hat3)
      all_goals
       go_wp2_with fail
       go_meet
       exact ⟨⟨_, _, Lib.hid HS3.out.setT⟩, qp HBX3.out (fun e => hmn e.symm) _, Lib.hid (HB3.out.setCell HS3.out.ns _)⟩
     case rest =>
      obtain ⟨⟨A3, c3, HS3⟩, bx3, HB3⟩ := hcut
      have g0 := HS3.out.s0
      have g1 := HS3.out.c1
      have g2 := HS3.out.fc 1
      have q0 : wc.cell? ⟨wr.heap.size, 0, none⟩ = some (.int .i64 f0) := by rw [qb bx3]; rfl
      have q1 : wc.cell? ⟨wr.heap.size, 1, none⟩ = some (.int .i64 f1) := by rw [qb bx3]; rfl
      have q2 : wc.cell? ⟨wr.heap.size, 2, none⟩ = some (.int .i64 f2) := by rw [qb bx3]; rfl
      have q3 : wc.cell? ⟨wr.heap.size, 3, none⟩ = some (.int .u32 f3) := by rw [qb bx3]; rfl
      have q4 : wc.cell? ⟨wr.heap.size, 4, none⟩ = some (.int .i64 f4) := by rw [qb bx3]; rfl
      have q5 : wc.cell? ⟨wr.heap.size, 5, none⟩ = some (.int .i64 f5) := by rw [qb bx3]; rfl
      have HLE3 := Lib.hid (show (l ++ [(⟨f0, f1, f2, f3, f4, f5⟩ : S67)]).length = l.length + 1 by simp)
      have HS2 := Lib.hid (HS3.out.below (bdn (Below.refl _ _) 1))
      have HN2 := Lib.hid (bthen HB3.out (bdn (Below.refl _ _) 1))
      have hmc2 := HS3.out.ltc
      have hms2 := HS3.out.lts
      have hmx2 := qG bx3
      have hk0 : ¬ gs = wc.heap.size := by omega
      have hk1 : ¬ gc = wc.heap.size := by omega
      have hk2 : ¬ wr.heap.size = wc.heap.size := by omega
      clear HS1 HN1 HS1' HN1' e0 e1 e2 e3 x0 x4 bx
      go_wp2_with fail
      go_region_law (refine Kd.R_append_step k67 (w0 := w0) w0.heap.size rfl (.tmp 74) (.tmp 76) 68 67 (.agg #[.int .i64 0, .int .i64 0, .int .i64 0, .int .u32 0, .int .i64 0, .int .i64 0]) 48 rfl Try.underlying68 infoOp rfl (by decide) (by decide) (.slice A1 l.length c1) l ⟨f0, f1, f2, f3, f4, f5⟩ [.int .i64 f0, .int .i64 f1, .int .i64 f2, .int .u32 f3, .int .i64 f4, .int .i64 f5] (fun _ => True) (fun _ => False) rfl rfl (k67_mkM _ _ _ _) (fun _ hk => hk.elim) (fun _ _ => trivial) HS2.out.l HN2.out HN2.out.size HLT.out.2.1 ?_; intro v4 w4 ho4 hb4 hg4 hat4; obtain ⟨A4, c4, hv4⟩ := Kd.R_slice ho4; rw [HLE3.out] at hv4; subst hv4; have HS4 := Lib.hid (HS2.out.overL ho4 hg4); have e5 := HS4.out.c1; have e6 := HS4.out.fc 1; have e7 := HS4.out.s0; have HB4 := Lib.hid hb4; clear ho4 hb4 hg4 hat4)
      all_goals
       go_wp2_with fail
       go_roundw
       case rel => exact ⟨k + 1, HLT.out.2.2, rfl, by go_num, _, _, _, _, HST, Lib.hid HS4.out.setL, Lib.hid (HB4.out.setCell HS4.out.nc _)⟩
       case measure => simp [intOf]; omega
    ·have HST := Lib.hid hst
     clear hst
     go_wp2_with (at_builtin; refine Kd.R_append (Kd.int .i64) (w0 := w0) w0.heap.size rfl _ _ 81 3 (.int .i64 0) 8 rfl Try.underlying81 infoInt rfl (by decide) (by decide) (.slice A2 tv.length c2) tv (-1) [.int .i64 (-1)] (fun _ => True) (fun _ => False) rfl rfl (by exact rfl) (fun _ hk => hk.elim) (fun _ _ => trivial) HS1.out.t HN1.out HN1.out.size HLT.out.1 ?_)
     intro v3 w3 ho3 hb3 hg3 hat3
     obtain ⟨A3, c3, hv3⟩ := Kd.R_slice ho3
     rw [HLE2.out] at hv3
     subst hv3
     have HS3 := Lib.hid (HS1.out.overT ho3 hg3)
     have e5 := HS3.out.s1
     have e6 := HS3.out.fs 1
     have HB3 := Lib.hid hb3
     clear ho3 hb3 hg3 hat3 e0 e1 e2 e3
     go_wp2_with fail
     go_roundw
     case rel => exact ⟨k + 1, HLT.out.2.2, rfl, by go_num, _, _, l, _, HST, Lib.hid HS3.out.setT, Lib.hid (HB3.out.setCell HS3.out.ns _)⟩
     case measure => simp [intOf]; omega
    ·have HST := Lib.hid hst
     clear hst
     go_wp2_with fail
     rw [Exit.noGoto_ret]
     go_ret
     rw [HST.out]
     exact ⟨⟨rfl, _, _, HS1⟩, HN1.out⟩
  ·have hke : k = B.ops.length := by omega
   subst hke
   have hp := HP.out
   rw [List.take_length] at hp
   have HP2 := Lib.hid hp
   clear hp
   go_wp2
   rw [Exit.noGoto_ret]
   go_ret
   rw [HP2.out]
   exact ⟨⟨rfl, _, _, HS⟩, HB.out⟩
end Go.Proofs.Ythjgakoofmmloaa

namespace Go.Proofs.Ythjgakoofmmloaa
open Go.RowKit Go.Proofs.YthjgakoofmmloaaW.PrintWords Go.Proofs.YthjgakoofmmloaaW.PrintLast Go.Proofs.YthjgakoofmmloaaW.PrintMore Go.Proofs.Ythjgakoofmmloaa.PNumberDoes
set_option linter.unusedVariables false
set_option linter.unusedSimpArgs false

def kpA (S : Int → Bool) (len : Nat) : List Int := (List.range len).map (fun i : Nat => if S (i : Int) = true then (1 : Int) else 0)
def kpM (nm : Int → Bool) (len n : Nat) : List Int := (List.range len).map (fun i : Nat => if nm (i : Int) = true then (if i < n then (plcN nm i : Int) else 1) else 0)
theorem kpA_len (S : Int → Bool) (len : Nat) : (kpA S len).length = len := by simp [kpA]
theorem kpM_len (nm : Int → Bool) (len n : Nat) : (kpM nm len n).length = len := by simp [kpM]
theorem kpA_none (len : Nat) : kpA (fun _ => false) len = List.replicate len 0 := by
 apply List.ext_getElem?
 intro i
 by_cases h : i < len
 ·simp [kpA, h]
 ·rw [List.getElem?_eq_none (by rw [kpA_len]; omega), List.getElem?_eq_none (by simp; omega)]
theorem kpA_set (S : Int → Bool) (len : Nat) (m : Int) (h0 : 0 ≤ m) : (kpA S len).set m.toNat 1 = kpA (fun i => S i || decide (m = i)) len := by
 apply List.ext_getElem?
 intro i
 by_cases h : i < len
 ·rw [List.getElem?_set]
  by_cases e : m.toNat = i
  ·have em : m = (i : Int) := by omega
   simp [kpA, h, em]
  ·have em : ¬ m = (i : Int) := by omega
   simp [kpA, h, e, em]
 ·rw [List.getElem?_eq_none (by rw [List.length_set, kpA_len]; omega), List.getElem?_eq_none (by rw [kpA_len]; omega)]
theorem kpM_zero (nm : Int → Bool) (len : Nat) : kpM nm len 0 = kpA nm len := by
 unfold kpM kpA
 refine List.map_congr_left fun i _ => ?_
 simp
theorem kpM_set (nm : Int → Bool) (len n : Nat) (hn : nm (n : Int) = true) : (kpM nm len n).set n (plcN nm n : Int) = kpM nm len (n + 1) := by
 apply List.ext_getElem?
 intro i
 by_cases h : i < len
 ·rw [List.getElem?_set]
  by_cases e : n = i
  ·subst e
   simp [kpM, h, hn]
  ·have e1 : (i < n) = (i < n + 1) := by apply propext; omega
   simp [kpM, h, e, e1]
 ·rw [List.getElem?_eq_none (by rw [List.length_set, kpM_len]; omega), List.getElem?_eq_none (by rw [kpM_len]; omega)]
theorem kpM_skip (nm : Int → Bool) (len n : Nat) (hn : nm (n : Int) = false) : kpM nm len n = kpM nm len (n + 1) := by
 unfold kpM
 refine List.map_congr_left fun i _ => ?_
 by_cases e : n = i
 ·subst e; simp [hn]
 ·have e1 : (i < n) = (i < n + 1) := by apply propext; omega
  simp [e1]
theorem kpM_now (nm : Int → Bool) (len n : Nat) (h : n < len) : (kpM nm len n)[n]? = some (if nm (n : Int) = true then 1 else 0) := by
 simp [kpM, h]
theorem kpM_end (nm : Int → Bool) (len : Nat) (m : Int) (h0 : 0 ≤ m) (h1 : m < (len : Int)) (hn : nm m = true) : (kpM nm len len)[m.toNat]? = some (pxI nm m) := by
 have h : m.toNat < len := by omega
 have e : ((m.toNat : Nat) : Int) = m := by omega
 simp [kpM, h, e, hn, pxI]
theorem nmdB_take (l : List S67) (last : Int) (k : Nat) (h : k < l.length) (n : Int) : nmdB (l.take (k + 1)) last n = (nmdB (l.take k) last n || ((decide (4 ≤ l[k].f0) && decide (l[k].f4 = n)) || (decide (l[k].f0 = 5) && decide (l[k].f5 = n)))) := by
 unfold nmdB
 rw [List.take_succ_eq_append_getElem h, List.any_append, Bool.or_assoc]
 simp
theorem nmdB_five (l : List S67) (last : Int) (k : Nat) (h : k < l.length) (h5 : l[k].f0 = 5) : nmdB (l.take (k + 1)) last = fun n => ((fun n => nmdB (l.take k) last n || decide (l[k].f5 = n)) n || decide (l[k].f4 = n)) := by
 funext n
 rw [nmdB_take l last k h, h5, show decide ((4 : Int) ≤ 5) = true from rfl, show decide ((5 : Int) = 5) = true from rfl]
 show (_ || ((true && decide (l[k].f4 = n)) || (true && decide (l[k].f5 = n)))) = ((nmdB (l.take k) last n || decide (l[k].f5 = n)) || decide (l[k].f4 = n))
 rw [Bool.true_and, Bool.true_and, Bool.or_assoc, Bool.or_comm (decide (l[k].f4 = n))]
theorem nmdB_four (l : List S67) (last : Int) (k : Nat) (h : k < l.length) (h4 : l[k].f0 = 4 ∨ l[k].f0 = 6) : nmdB (l.take (k + 1)) last = fun n => nmdB (l.take k) last n || decide (l[k].f4 = n) := by
 funext n
 rw [nmdB_take l last k h, decide_eq_true (show 4 ≤ l[k].f0 by omega), decide_eq_false (show ¬ l[k].f0 = 5 by omega)]
 cases nmdB (l.take k) last n <;> cases hd : decide (l[k].f4 = n) <;> rfl
theorem nmdB_none (l : List S67) (last : Int) (k : Nat) (h : k < l.length) (h4 : l[k].f0 < 4) : nmdB (l.take (k + 1)) last = nmdB (l.take k) last := by
 funext n
 rw [nmdB_take l last k h, decide_eq_false (show ¬ 4 ≤ l[k].f0 by omega), decide_eq_false (show ¬ l[k].f0 = 5 by omega)]
 cases nmdB (l.take k) last n <;> rfl
theorem nmdB_zero (l : List S67) (last : Int) : nmdB (l.take 0) last = fun n => (fun _ : Int => false) n || decide (last = n) := by
 funext n
 simp [nmdB]
structure GeS (N N1 M : Nat) (B : BlkV) (wr : World) (gs gc gb gk : Nat) (v0 vt v1 v2 : Value) (la : Int) (l : List S67) (tv : List Int) (xs : List S73) (kp : List Int) : Prop where
 bs : wr.heap[gs]? = some (.cells #[.pointer (some ⟨gc, 0, none⟩), vt] 112 (0, 0))
 bc : wr.heap[gc]? = some (.cells #[v0, v1, v2, .int .i64 la] 76 (0, 0))
 bk : wr.heap[gb]? = some (.cells #[.slice (some ⟨gk, 0, none⟩) B.exits.length B.exits.length] 81 (0, 0))
 kk : wr.heap[gk]? = some (.cells (kp.map (Value.int .i64)).toArray 3 (0, 0))
 p : Kd.R (Kd.int .u32) 27 wr N (fun k => k < M) v0 B.pcs
 l : Kd.R k67 67 wr N (fun k => k < M) v1 l
 t : Kd.R (Kd.int .i64) 3 wr N (fun k => k < N1) vt tv
 x : Kd.R k73 73 wr N (fun k => k < M) v2 xs
 ns : N ≤ gs
 nc : N ≤ gc
 nb : N1 ≤ gb
 nk : N1 ≤ gk
 n1 : N ≤ N1
 ms : gs < M
 mc : gc < M
 mb : gb < M
 mkk : gk < M
 m1 : N1 ≤ M
 hM : M ≤ wr.heap.size
section
variable {N N1 M M' : Nat} {B : BlkV} {wr w1 : World} {gs gc gb gk : Nat} {v0 vt v1 v2 v2' : Value} {la : Int} {l : List S67} {tv kp : List Int} {xs xs' : List S73}
theorem GeS.s0 (h : GeS N N1 M B wr gs gc gb gk v0 vt v1 v2 la l tv xs kp) : wr.cell? ⟨gs, 0, none⟩ = some (.pointer (some ⟨gc, 0, none⟩)) := by rw [qb h.bs]; rfl
theorem GeS.s1 (h : GeS N N1 M B wr gs gc gb gk v0 vt v1 v2 la l tv xs kp) : wr.cell? ⟨gs, 1, none⟩ = some vt := by rw [qb h.bs]; rfl
theorem GeS.c1 (h : GeS N N1 M B wr gs gc gb gk v0 vt v1 v2 la l tv xs kp) : wr.cell? ⟨gc, 1, none⟩ = some v1 := by rw [qb h.bc]; rfl
theorem GeS.c2 (h : GeS N N1 M B wr gs gc gb gk v0 vt v1 v2 la l tv xs kp) : wr.cell? ⟨gc, 2, none⟩ = some v2 := by rw [qb h.bc]; rfl
theorem GeS.c3 (h : GeS N N1 M B wr gs gc gb gk v0 vt v1 v2 la l tv xs kp) : wr.cell? ⟨gc, 3, none⟩ = some (.int .i64 la) := by rw [qb h.bc]; rfl
theorem GeS.b0 (h : GeS N N1 M B wr gs gc gb gk v0 vt v1 v2 la l tv xs kp) : wr.cell? ⟨gb, 0, none⟩ = some (.slice (some ⟨gk, 0, none⟩) B.exits.length B.exits.length) := by rw [qb h.bk]; rfl
theorem GeS.kc (h : GeS N N1 M B wr gs gc gb gk v0 vt v1 v2 la l tv xs kp) {i : Nat} {x : Int} (hx : kp[i]? = some x) : wr.cell? ⟨gk, i, none⟩ = some (.int .i64 x) := by rw [qb h.kk]; simp [hx]
theorem GeS.fc (h : GeS N N1 M B wr gs gc gb gk v0 vt v1 v2 la l tv xs kp) (i : Nat) : wr.frozen? ⟨gc, i, none⟩ = false := qa h.bc i
theorem GeS.fk (h : GeS N N1 M B wr gs gc gb gk v0 vt v1 v2 la l tv xs kp) (i : Nat) : wr.frozen? ⟨gk, i, none⟩ = false := qa h.kk i
theorem GeS.below (h : GeS N N1 M B wr gs gc gb gk v0 vt v1 v2 la l tv xs kp) (hb : Below M wr w1) : GeS N N1 M B w1 gs gc gb gk v0 vt v1 v2 la l tv xs kp :=
 ⟨(hb.block _ h.ms).trans h.bs, (hb.block _ h.mc).trans h.bc, (hb.block _ h.mb).trans h.bk, (hb.block _ h.mkk).trans h.kk, Kd.R_step h.p fun k hk _ => hb.block k hk, Kd.R_step h.l fun k hk _ => hb.block k hk, Kd.R_step h.t fun k hk _ => hb.block k (Nat.lt_of_lt_of_le hk h.m1), Kd.R_step h.x fun k hk _ => hb.block k hk,
  h.ns, h.nc, h.nb, h.nk, h.n1, h.ms, h.mc, h.mb, h.mkk, h.m1, Nat.le_trans h.hM hb.size⟩
theorem GeS.raise (h : GeS N N1 M B wr gs gc gb gk v0 vt v1 v2 la l tv xs kp) (h1 : M ≤ M') (h2 : M' ≤ wr.heap.size) : GeS N N1 M' B wr gs gc gb gk v0 vt v1 v2 la l tv xs kp :=
 ⟨h.bs, h.bc, h.bk, h.kk, Kd.R_mono h.p fun k hk => Nat.lt_of_lt_of_le hk h1, Kd.R_mono h.l fun k hk => Nat.lt_of_lt_of_le hk h1, h.t, Kd.R_mono h.x fun k hk => Nat.lt_of_lt_of_le hk h1,
  h.ns, h.nc, h.nb, h.nk, h.n1, Nat.lt_of_lt_of_le h.ms h1, Nat.lt_of_lt_of_le h.mc h1, Nat.lt_of_lt_of_le h.mb h1, Nat.lt_of_lt_of_le h.mkk h1, Nat.le_trans h.m1 h1, h2⟩
theorem kp_arr (kp : List Int) (i : Nat) (x : Int) : ((kp.map (Value.int .i64)).toArray).setIfInBounds i (.int .i64 x) = ((kp.set i x).map (Value.int .i64)).toArray := by
 rw [List.setIfInBounds_toArray, List.map_set]
theorem GeS.setK (h : GeS N N1 M B wr gs gc gb gk v0 vt v1 v2 la l tv xs kp) (i : Nat) (x : Int) : GeS N N1 M B (wr.setCell ⟨gk, i, none⟩ (.int .i64 x)) gs gc gb gk v0 vt v1 v2 la l tv xs (kp.set i x) :=
 ⟨qp h.bs (blk_ne h.bs h.kk (by decide)) _, qp h.bc (blk_ne h.bc h.kk (by decide)) _, qp h.bk (blk_ne h.bk h.kk (by decide)) _, by have := qC h.kk i (.int .i64 x); rw [kp_arr] at this; exact this,
  Kd.R_set h.p h.kk (by decide) _ _, Kd.R_set h.l h.kk (by decide) _ _, Kd.R_far (p := ⟨gk, i, none⟩) h.t (fun k hk => by have := h.nk; show k ≠ gk; omega) _, Kd.R_set h.x h.kk (by decide) _ _,
  h.ns, h.nc, h.nb, h.nk, h.n1, h.ms, h.mc, h.mb, h.mkk, h.m1, by simpa using h.hM⟩
theorem GeS.setLast (h : GeS N N1 M B wr gs gc gb gk v0 vt v1 v2 la l tv xs kp) (x : Int) : GeS N N1 M B (wr.setCell ⟨gc, 3, none⟩ (.int .i64 x)) gs gc gb gk v0 vt v1 v2 x l tv xs kp :=
 ⟨qp h.bs (blk_ne h.bs h.bc (by decide)) _, qC h.bc 3 _, qp h.bk (blk_ne h.bk h.bc (by decide)) _, qp h.kk (blk_ne h.kk h.bc (by decide)) _,
  Kd.R_set h.p h.bc (by decide) _ _, Kd.R_set h.l h.bc (by decide) _ _, Kd.R_set h.t h.bc (by decide) _ _, Kd.R_set h.x h.bc (by decide) _ _,
  h.ns, h.nc, h.nb, h.nk, h.n1, h.ms, h.mc, h.mb, h.mkk, h.m1, by simpa using h.hM⟩
structure GeX (N N1 : Nat) (B : BlkV) (wr : World) (gs gc gb gk : Nat) (v0 vt v1 v2 v2' : Value) (la : Int) (l : List S67) (tv : List Int) (xs : List S73) (kp : List Int) : Prop where
 bs : wr.heap[gs]? = some (.cells #[.pointer (some ⟨gc, 0, none⟩), vt] 112 (0, 0))
 bc : wr.heap[gc]? = some (.cells #[v0, v1, v2, .int .i64 la] 76 (0, 0))
 bk : wr.heap[gb]? = some (.cells #[.slice (some ⟨gk, 0, none⟩) B.exits.length B.exits.length] 81 (0, 0))
 kk : wr.heap[gk]? = some (.cells (kp.map (Value.int .i64)).toArray 3 (0, 0))
 p : Kd.R (Kd.int .u32) 27 wr N (fun _ => True) v0 B.pcs
 l : Kd.R k67 67 wr N (fun _ => True) v1 l
 t : Kd.R (Kd.int .i64) 3 wr N (fun k => k < N1) vt tv
 x : Kd.R k73 73 wr N (fun _ => True) v2' xs
 ns : N ≤ gs
 nc : N ≤ gc
 nb : N1 ≤ gb
 nk : N1 ≤ gk
 n1 : N ≤ N1
theorem GeS.over (h : GeS N N1 M B wr gs gc gb gk v0 vt v1 v2 la l tv xs kp) (hx : Kd.R k73 73 w1 N (fun _ => True) v2' xs') (hg : wr.grownBy w1 v2.ownBlock) : GeX N N1 B w1 gs gc gb gk v0 vt v1 v2 v2' la l tv xs' kp :=
 ⟨qM h.bs hg (Kd.R_ne h.x h.bs (by decide)), qM h.bc hg (Kd.R_ne h.x h.bc (by decide)), qM h.bk hg (Kd.R_ne h.x h.bk (by decide)), qM h.kk hg (Kd.R_ne h.x h.kk (by decide)),
  Kd.R_mono (Kd.R_over' h.p (Kd.R_typed h.x) (by decide) hg) (fun _ _ => trivial), Kd.R_mono (Kd.R_over h.l h.x (by decide) hg) (fun _ _ => trivial), Kd.R_over h.t h.x (by decide) hg, hx, h.ns, h.nc, h.nb, h.nk, h.n1⟩
theorem GeX.s0 (h : GeX N N1 B wr gs gc gb gk v0 vt v1 v2 v2' la l tv xs kp) : wr.cell? ⟨gs, 0, none⟩ = some (.pointer (some ⟨gc, 0, none⟩)) := by rw [qb h.bs]; rfl
theorem GeX.c2 (h : GeX N N1 B wr gs gc gb gk v0 vt v1 v2 v2' la l tv xs kp) : wr.cell? ⟨gc, 2, none⟩ = some v2 := by rw [qb h.bc]; rfl
theorem GeX.fc (h : GeX N N1 B wr gs gc gb gk v0 vt v1 v2 v2' la l tv xs kp) (i : Nat) : wr.frozen? ⟨gc, i, none⟩ = false := qa h.bc i
theorem R_all {α : Type} {d : Kd α} {e : Nat} {w : World} {base : Nat} {ok : Nat → Prop} {v : Value} {xs : List α} (h : d.R e w base ok v xs) : d.R e w base (fun k => k < w.heap.size) v xs := Kd.R_mono (Kd.R_bound h) fun k hk => hk.2.2.1
theorem GeX.done (h : GeX N N1 B wr gs gc gb gk v0 vt v1 v2 v2' la l tv xs kp) : GeS N N1 wr.heap.size B (wr.setCell ⟨gc, 2, none⟩ v2') gs gc gb gk v0 vt v1 v2' la l tv xs kp :=
 ⟨qp h.bs (blk_ne h.bs h.bc (by decide)) _, qC h.bc 2 _, qp h.bk (blk_ne h.bk h.bc (by decide)) _, qp h.kk (blk_ne h.kk h.bc (by decide)) _,
  Kd.R_set (R_all h.p) h.bc (by decide) _ _, Kd.R_set (R_all h.l) h.bc (by decide) _ _, Kd.R_set h.t h.bc (by decide) _ _, Kd.R_set (R_all h.x) h.bc (by decide) _ _,
  h.ns, h.nc, h.nb, h.nk, h.n1, qG h.bs, qG h.bc, qG h.bk, qG h.kk, Nat.le_trans h.nk (Nat.le_of_lt (qG h.kk)), by simp⟩
theorem made_kp (n : Nat) : madeCells #[Value.int .i64 0] n = ((kpA (fun _ => false) n).map (Value.int .i64)).toArray := by
 rw [kpA_none]
 apply Array.ext'
 show (madeCells #[Value.int .i64 0] n).toList = (List.replicate n (0 : Int)).map (Value.int .i64)
 apply List.ext_getElem
 ·simp [madeCells]
 ·intro i h1 h2
  simp [madeCells, Nat.mod_one]
theorem GeS.start (H : GdS N B wr gs gc v0 vt l tv v1) (hN : N ≤ wr.heap.size) :
  GeS N wr.heap.size (wr.heap.size + 1 + 1) B ((wr.alloc (.cells (madeCells #[Value.int .i64 0] B.exits.length) 3)).alloc (.cells #[.slice (some ⟨wr.heap.size, 0, none⟩) B.exits.length B.exits.length] 81)) gs gc (wr.heap.size + 1) wr.heap.size v0 vt v1 (.slice none 0 0) 0 l tv [] (kpA (fun _ => false) B.exits.length) := by
 rw [made_kp]
 have hb : Below wr.heap.size wr ((wr.alloc (.cells ((kpA (fun _ => false) B.exits.length).map (Value.int .i64)).toArray 3)).alloc (.cells #[.slice (some ⟨wr.heap.size, 0, none⟩) B.exits.length B.exits.length] 81)) := bal (bal (Below.refl _ _) _) _
 have h1 := H.lts
 have h2 := H.ltc
 refine ⟨qo H.bs hb, qo H.bc hb, by simpa using qD (wr.alloc _) _, qf (qD _ _) _, ?_, ?_, ?_, Kd.R_nil _ _ _ _ _, H.ns, H.nc, Nat.le_succ _, Nat.le_refl _, hN, by omega, by omega, by omega, by omega, by omega, by simp⟩
 ·exact Kd.R_mono (Kd.qO (R_all H.p) hb) fun k hk => Nat.lt_of_lt_of_le hk (by omega)
 ·exact Kd.R_mono (Kd.qO (R_all H.l) hb) fun k hk => Nat.lt_of_lt_of_le hk (by omega)
 ·exact Kd.qO (R_all H.t) hb
end
theorem R_val_set {w : World} {base g n c m : Nat} {ok : Nat → Prop} {ys : List S70} {y : S70} (h : Kd.R k70 70 w base ok (.slice (some ⟨g, 0, none⟩) n c) ys) (hy : ys[m]? = some y) (v : Int) : Kd.R k70 70 (w.setCell ⟨g, m * 2 + 1, none⟩ (.int .i64 v)) base ok (.slice (some ⟨g, 0, none⟩) n c) (ys.set m ⟨y.f0, v⟩) := by
 obtain ⟨hn, -, hC⟩ := Kd.R_reads' h
 have hm := (List.getElem?_eq_some_iff.1 hy).1
 obtain ⟨ad, had, d0, d1⟩ := at_T70 hC (m : Int) (by omega) (by omega)
 cases had
 have hq : rd_T70 ys (m : Int) = y := by unfold rd_T70; rw [List.getD_eq_getElem?_getD, Int.toNat_natCast, hy]; rfl
 rw [hq] at d0 d1
 simp only [qI, Int.toNat_natCast] at d0 d1
 have := (Kd.R_seg (okp := fun _ => False) h (m : Int) (by omega) (by omega) (c := [.int .i64 y.f0, .int .i64 y.f1]) (seg := [.int .i64 v]) (j := 1) rfl (fun j u hu => by
  match j, hu with
  | 0, hu => simp at hu; subst hu; exact d0
  | 1, hu => simp at hu; subst hu; exact d1) (show 1 + 1 ≤ 2 by decide) (x' := ⟨y.f0, v⟩) (k70_mkM _ _ _ ⟨y.f0, v⟩) (fun _ hk => hk.elim)).1
 exact this
theorem R_op_set4 {w : World} {base g n c m : Nat} {ok : Nat → Prop} {ys : List S67} {y : S67} (h : Kd.R k67 67 w base ok (.slice (some ⟨g, 0, none⟩) n c) ys) (hy : ys[m]? = some y) (v : Int) : Kd.R k67 67 (w.setCell ⟨g, m * 6 + 4, none⟩ (.int .i64 v)) base ok (.slice (some ⟨g, 0, none⟩) n c) (ys.set m ⟨y.f0, y.f1, y.f2, y.f3, v, y.f5⟩) := by
 obtain ⟨hn, -, hC⟩ := Kd.R_reads' h
 have hm := (List.getElem?_eq_some_iff.1 hy).1
 obtain ⟨ad, had, d0, d1, d2, d3, d4, d5⟩ := at_T67 hC (m : Int) (by omega) (by omega)
 cases had
 have hq : qz ys (m : Int) = y := by unfold qz; rw [List.getD_eq_getElem?_getD, Int.toNat_natCast, hy]; rfl
 rw [hq] at d0 d1 d2 d3 d4 d5
 simp only [qI, Int.toNat_natCast] at d0 d1 d2 d3 d4 d5
 have := (Kd.R_seg (okp := fun _ => False) h (m : Int) (by omega) (by omega) (c := [.int .i64 y.f0, .int .i64 y.f1, .int .i64 y.f2, .int .u32 y.f3, .int .i64 y.f4, .int .i64 y.f5]) (seg := [.int .i64 v]) (j := 4) rfl (fun j u hu => by
  match j, hu with
  | 0, hu => simp at hu; subst hu; exact d0
  | 1, hu => simp at hu; subst hu; exact d1
  | 2, hu => simp at hu; subst hu; exact d2
  | 3, hu => simp at hu; subst hu; exact d3
  | 4, hu => simp at hu; subst hu; exact d4
  | 5, hu => simp at hu; subst hu; exact d5) (show 4 + 1 ≤ 6 by decide) (x' := ⟨y.f0, y.f1, y.f2, y.f3, v, y.f5⟩) (k67_mkM _ _ _ ⟨y.f0, y.f1, y.f2, y.f3, v, y.f5⟩) (fun _ hk => hk.elim)).1
 exact this
theorem R_op_set5 {w : World} {base g n c m : Nat} {ok : Nat → Prop} {ys : List S67} {y : S67} (h : Kd.R k67 67 w base ok (.slice (some ⟨g, 0, none⟩) n c) ys) (hy : ys[m]? = some y) (v : Int) : Kd.R k67 67 (w.setCell ⟨g, m * 6 + 5, none⟩ (.int .i64 v)) base ok (.slice (some ⟨g, 0, none⟩) n c) (ys.set m ⟨y.f0, y.f1, y.f2, y.f3, y.f4, v⟩) := by
 obtain ⟨hn, -, hC⟩ := Kd.R_reads' h
 have hm := (List.getElem?_eq_some_iff.1 hy).1
 obtain ⟨ad, had, d0, d1, d2, d3, d4, d5⟩ := at_T67 hC (m : Int) (by omega) (by omega)
 cases had
 have hq : qz ys (m : Int) = y := by unfold qz; rw [List.getD_eq_getElem?_getD, Int.toNat_natCast, hy]; rfl
 rw [hq] at d0 d1 d2 d3 d4 d5
 simp only [qI, Int.toNat_natCast] at d0 d1 d2 d3 d4 d5
 have := (Kd.R_seg (okp := fun _ => False) h (m : Int) (by omega) (by omega) (c := [.int .i64 y.f0, .int .i64 y.f1, .int .i64 y.f2, .int .u32 y.f3, .int .i64 y.f4, .int .i64 y.f5]) (seg := [.int .i64 v]) (j := 5) rfl (fun j u hu => by
  match j, hu with
  | 0, hu => simp at hu; subst hu; exact d0
  | 1, hu => simp at hu; subst hu; exact d1
  | 2, hu => simp at hu; subst hu; exact d2
  | 3, hu => simp at hu; subst hu; exact d3
  | 4, hu => simp at hu; subst hu; exact d4
  | 5, hu => simp at hu; subst hu; exact d5) (show 5 + 1 ≤ 6 by decide) (x' := ⟨y.f0, y.f1, y.f2, y.f3, y.f4, v⟩) (k67_mkM _ _ _ ⟨y.f0, y.f1, y.f2, y.f3, y.f4, v⟩) (fun _ hk => hk.elim)).1
 exact this
section
variable {N N1 M : Nat} {B : BlkV} {wr : World} {gs gc gb gk g1 n1 c1 : Nat} {v0 vt v2 : Value} {la : Int} {l : List S67} {tv kp : List Int} {xs : List S73}
theorem GeS.setOp (h : GeS N N1 M B wr gs gc gb gk v0 vt (.slice (some ⟨g1, 0, none⟩) n1 c1) v2 la l tv xs kp) {l' : List S67} (j : Nat) (u : Value) (hl : Kd.R k67 67 (wr.setCell ⟨g1, j, none⟩ u) N (fun k => k < M) (.slice (some ⟨g1, 0, none⟩) n1 c1) l') (hp : 0 < l.length) :
  GeS N N1 M B (wr.setCell ⟨g1, j, none⟩ u) gs gc gb gk v0 vt (.slice (some ⟨g1, 0, none⟩) n1 c1) v2 la l' tv xs kp := by
 obtain ⟨g, cap, hv, -, -, cells, hc⟩ := Kd.R_form h.l hp
 cases hv
 exact ⟨qp h.bs (blk_ne h.bs hc (by decide)) _, qp h.bc (blk_ne h.bc hc (by decide)) _, qp h.bk (blk_ne h.bk hc (by decide)) _, qp h.kk (blk_ne h.kk hc (by decide)) _,
  Kd.R_set h.p hc (by decide) _ _, hl, Kd.R_set h.t hc (by decide) _ _, Kd.R_set h.x hc (by decide) _ _,
  h.ns, h.nc, h.nb, h.nk, h.n1, h.ms, h.mc, h.mb, h.mkk, h.m1, by simpa using h.hM⟩
theorem GeS.block (h : GeS N N1 M B wr gs gc gb gk v0 vt (.slice (some ⟨g1, 0, none⟩) n1 c1) v2 la l tv xs kp) (hp : 0 < l.length) : N ≤ g1 ∧ ∀ i, wr.frozen? ⟨g1, i, none⟩ = false := by
 obtain ⟨g, cap, hv, hN, -, cells, hc⟩ := Kd.R_form h.l hp
 cases hv
 exact ⟨hN, fun i => qa hc i⟩
theorem GeS.tocell {v1 : Value} {At : Option Addr} {ct : Nat} (h : GeS N N1 M B wr gs gc gb gk v0 (.slice At tv.length ct) v1 v2 la l tv xs kp) (i : Int) (h0 : 0 ≤ i) (h1 : i < (tv.length : Int)) : ∃ g2, At = some ⟨g2, 0, none⟩ ∧ wr.cell? ⟨g2, i.toNat, none⟩ = some (.int .i64 (rd tv i)) ∧ g2 < N1 := by
 obtain ⟨g2, cap2, hv2, -, -, -⟩ := Kd.R_form h.t (by omega)
 have hlt := h.t.1
 rw [hv2] at hlt
 cases hv2
 obtain ⟨ad, had, d1⟩ := Kd.at_int (Kd.R_reads' h.t).2.2 i h0 h1
 cases had
 rw [qI] at d1
 exact ⟨g2, rfl, d1, hlt g2 rfl⟩
theorem GeS.fin {v1 : Value} (h : GeS N N1 M B wr gs gc gb gk v0 vt v1 v2 la l tv xs kp) : BlockAt wr gc ⟨B.pcs, l, xs, la⟩ := by
 obtain ⟨A0, c0, rfl, -, hC0⟩ := Kd.R_reads h.p
 obtain ⟨A1, c1, rfl, -, hC1⟩ := Kd.R_reads h.l
 obtain ⟨A2, c2, rfl, -, hC2⟩ := Kd.R_reads h.x
 exact ⟨⟨A0, c0, by rw [qb h.bc]; rfl, hC0⟩, ⟨A1, c1, h.c1, hC1⟩, ⟨A2, c2, h.c2, hC2⟩, h.c3⟩
end
end Go.Proofs.Ythjgakoofmmloaa
