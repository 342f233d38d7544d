/- Proved: contracts of single functions, and words for them, as the kit's print has printed them; names shortened. Conditions: those that each theorem names. -/
import Derived.Test.YthjgakoofmmloaaZPNumberDoesx0
import Derived.Test.YthjgakoofmmloaaZPNumberDoesx1
import Derived.Test.YthjgakoofmmloaaZPNumberDoesx8
namespace Go.Proofs.Ythjgakoofmmloaa.PNumberDoes
open Go.RowKit Go.Proofs.YthjgakoofmmloaaW.PrintWords Go.Proofs.YthjgakoofmmloaaW.PrintLast Go.Proofs.YthjgakoofmmloaaW.PrintMore
attribute [local go_sem] max2_int min2_int max_two min_two qQ qR max_four min_four
set_option linter.unusedVariables false
set_option linter.unusedSimpArgs false

attribute [local go_sem high] eqA67
def ir_named.f (a0_0 : Int) (a0_1 : Int) (a0_2 : Int) (a0_3 : Int) (a0_4 : Int) (a0_5 : Int) : Option (Bool) := if a0_0 = 5 then (some true) else (if a0_0 = 6 then (some (0 == a0_5)) else (if a0_0 = 3 then (some (0 == a0_4 && (0 == a0_5))) else (if a0_0 = 4 then (some (0 == a0_2 && (0 == a0_5))) else (some (0 == a0_1 && (0 == a0_2 && (0 == a0_4 && (0 == a0_5))))))))
def ir_named.T9 : Bool × List (List Nat × List Nat) := (true, [([], []), ([0], [0]), ([], []), ([2], [2]), ([0, 1], []), ([4, 1, 0, 1], [1, 4]), ([0, 1, 2, 3, 4, 5], []), ([6, 3, 5, 0, 1, 2, 3, 4, 5], [3, 6])])
def ir_named.B9 : List Nat := [0, 1, 0, 4, 3, 19, 63, 127]
theorem ir_named.tab9 : rtab .any (opsOf Try.f134 9) = ir_named.T9 := by kernel_rfl
theorem ir_named.bits9 : waitsOk ir_named.T9.2 ir_named.B9 = true := by kernel_rfl
def ir_named.T10 : Bool × List (List Nat × List Nat) := (true, [([], []), ([0], [0]), ([], []), ([2], [2]), ([0, 1], []), ([4, 1, 0, 1], [1, 4]), ([0, 1, 2, 3, 4, 5], []), ([6, 3, 5, 0, 1, 2, 3, 4, 5], [3, 6])])
def ir_named.B10 : List Nat := [0, 1, 0, 4, 3, 19, 63, 127]
theorem ir_named.tab10 : rtab .any (opsOf Try.f134 10) = ir_named.T10 := by kernel_rfl
theorem ir_named.bits10 : waitsOk ir_named.T10.2 ir_named.B10 = true := by kernel_rfl
set_option maxHeartbeats 8000000 in
set_option maxRecDepth 100000 in
theorem ir_named.calls (a0_0 : Int) (a0_1 : Int) (a0_2 : Int) (a0_3 : Int) (a0_4 : Int) (a0_5 : Int) (r : Bool) (w : World) (h : ir_named.f a0_0 a0_1 a0_2 a0_3 a0_4 a0_5 = some r) :
  Calls Try.prog 134 #[.agg #[.int .i64 a0_0, .int .i64 a0_1, .int .i64 a0_2, .int .u32 a0_3, .int .i64 a0_4, .int .i64 a0_5]] w fun e w' => e = .returned (.bool r) ∧ Below w.heap.size w w' := by
 have hu67 := Try.underlying67
 have HB := Aside0.mk (Below.refl w.heap.size w)
 have H : (if a0_0 = 5 then (some true) else (if a0_0 = 6 then (some (0 == a0_5)) else (if a0_0 = 3 then (some (0 == a0_4 && (0 == a0_5))) else (if a0_0 = 4 then (some (0 == a0_2 && (0 == a0_5))) else (some (0 == a0_1 && (0 == a0_2 && (0 == a0_4 && (0 == a0_5))))))))) = some r := h
 clear h
 by_cases c2 : a0_0 = 5
 ·rw [if_pos c2] at H
  have c2b0 : (a0_0 == 5) = true := beq_iff_eq.mpr c2
  have c2b1 : (a0_0 != 5) = false := bne_eq_false_iff_eq.mpr c2
  clear c2
  obtain rfl := Option.some.inj H
  go_enter Try.func134, Try.ntmps134
  try go_wp2_with (first | ((with_reducible refine qB (N := 1) rfl ?_); refine qA ?hg (N := 1) ?hd (cs := #[.int .i64 a0_0, .int .i64 a0_1, .int .i64 a0_2, .int .u32 a0_3, .int .i64 a0_4, .int .i64 a0_5]) (t := 67) ?hr ?_; (case hd => rfl); (case hg => rfl); (case hr => first | (go_simp; done) | (go_simp; rfl)); intro gb187 hg w3 hbox hb; have n0_ := Aside0.mk (qq (by repeat (first | (with_reducible first | exact HB.out | apply qe | apply qc | apply qd) | exact HB.out)) hb); have n1_ := Aside0.mk (hbox); have n2_ := Aside0.mk ((by rw [hg]; exact (qr (by repeat (first | (with_reducible first | exact HB.out | apply qe | apply qc | apply qd) | exact HB.out))) : w.heap.size ≤ gb187)); have n3_ := Aside0.mk ((by rw [hg]; exact (qr (by repeat (first | (with_reducible first | exact HB.out | apply qe | apply qc | apply qd) | exact HB.out))) : w.heap.size ≤ gb187)); clear HB; have HB := n0_; have BK187 := n1_; have GW187 := n2_; have GE187 := n3_; clear n0_ n1_ n2_ n3_; clear hb hbox hg; have hcz4_0 : w3.cell? ⟨gb187, 0, none⟩ = some (.int .i64 a0_0) := (qb BK187.out 0).trans rfl; have hcz4_1 : w3.cell? ⟨gb187, 1, none⟩ = some (.int .i64 a0_1) := (qb BK187.out 1).trans rfl; have hcz4_2 : w3.cell? ⟨gb187, 2, none⟩ = some (.int .i64 a0_2) := (qb BK187.out 2).trans rfl; have hcz4_3 : w3.cell? ⟨gb187, 3, none⟩ = some (.int .u32 a0_3) := (qb BK187.out 3).trans rfl; have hcz4_4 : w3.cell? ⟨gb187, 4, none⟩ = some (.int .i64 a0_4) := (qb BK187.out 4).trans rfl; have hcz4_5 : w3.cell? ⟨gb187, 5, none⟩ = some (.int .i64 a0_5) := (qb BK187.out 5).trans rfl; have hfz4_0 := qa BK187.out 0; have hfz4_1 := qa BK187.out 1; have hfz4_2 := qa BK187.out 2; have hfz4_3 := qa BK187.out 3; have hfz4_4 := qa BK187.out 4; have hfz4_5 := qa BK187.out 5) | ((with_reducible refine qB (N := 3) rfl ?_); refine qA ?hg (N := 3) ?hd (cs := #[.int .i64 0, .int .i64 0, .int .i64 0, .int .u32 0, .int .i64 0, .int .i64 0]) (t := 67) ?hr ?_; (case hd => rfl); (case hg => rfl); (case hr => first | (go_simp; done) | (go_simp; rfl)); intro gb188 hg w5 hbox hb; have n0_ := Aside0.mk (qo (g := gb187) (o := .cells #[.int .i64 a0_0, .int .i64 a0_1, .int .i64 a0_2, .int .u32 a0_3, .int .i64 a0_4, .int .i64 a0_5] 67 (0, 0)) (by (with_reducible repeat (first | refine qg ?_ _ | refine qi ?_ | refine qf ?_ _)); exact BK187.out) hb); have n1_ := Aside0.mk (qq (by repeat (first | (with_reducible first | exact HB.out | apply qe | apply qc | apply qd | refine qh ?_ GE187.out) | exact HB.out)) hb); have n2_ := Aside0.mk (hbox); have n3_ := Aside0.mk ((by rw [hg]; exact (qr (by repeat (first | (with_reducible first | exact HB.out | apply qe | apply qc | apply qd | refine qh ?_ GE187.out) | exact HB.out))) : w.heap.size ≤ gb188)); have n4_ := Aside0.mk ((by rw [hg]; exact (qr (by repeat (first | (with_reducible first | exact HB.out | apply qe | apply qc | apply qd | refine qh ?_ GE187.out) | exact HB.out))) : w.heap.size ≤ gb188)); have n5_ := Aside0.mk ((by rw [hg]; exact nne9 (qG (g := gb187) (o := .cells #[.int .i64 a0_0, .int .i64 a0_1, .int .i64 a0_2, .int .u32 a0_3, .int .i64 a0_4, .int .i64 a0_5] 67 (0, 0)) (by (with_reducible repeat (first | refine qg ?_ _ | refine qi ?_ | refine qf ?_ _)); exact BK187.out)) : gb187 ≠ gb188)); have n6_ := Aside0.mk ((by rw [hg]; exact Nat.ne_of_gt (qG (g := gb187) (o := .cells #[.int .i64 a0_0, .int .i64 a0_1, .int .i64 a0_2, .int .u32 a0_3, .int .i64 a0_4, .int .i64 a0_5] 67 (0, 0)) (by (with_reducible repeat (first | refine qg ?_ _ | refine qi ?_ | refine qf ?_ _)); exact BK187.out)) : gb188 ≠ gb187)); clear BK187; clear HB; have BK187 := n0_; have HB := n1_; have BK188 := n2_; have GW188 := n3_; have GE188 := n4_; have NB187_188 := n5_; have NB188_187 := n6_; clear n0_ n1_ n2_ n3_ n4_ n5_ n6_; clear hb hbox hg; have hnb6 := NB188_187.out; have hnc6 := NB187_188.out; have hcz7_0 : w5.cell? ⟨gb188, 0, none⟩ = some (.int .i64 0) := (qb BK188.out 0).trans rfl; have hcz7_1 : w5.cell? ⟨gb188, 1, none⟩ = some (.int .i64 0) := (qb BK188.out 1).trans rfl; have hcz7_2 : w5.cell? ⟨gb188, 2, none⟩ = some (.int .i64 0) := (qb BK188.out 2).trans rfl; have hcz7_3 : w5.cell? ⟨gb188, 3, none⟩ = some (.int .u32 0) := (qb BK188.out 3).trans rfl; have hcz7_4 : w5.cell? ⟨gb188, 4, none⟩ = some (.int .i64 0) := (qb BK188.out 4).trans rfl; have hcz7_5 : w5.cell? ⟨gb188, 5, none⟩ = some (.int .i64 0) := (qb BK188.out 5).trans rfl; have hfz7_0 := qa BK188.out 0; have hfz7_1 := qa BK188.out 1; have hfz7_2 := qa BK188.out 2; have hfz7_3 := qa BK188.out 3; have hfz7_4 := qa BK188.out 4; have hfz7_5 := qa BK188.out 5; have hcz8_0 : w5.cell? ⟨gb187, 0, none⟩ = some (.int .i64 a0_0) := (qb BK187.out 0).trans rfl; have hcz8_1 : w5.cell? ⟨gb187, 1, none⟩ = some (.int .i64 a0_1) := (qb BK187.out 1).trans rfl; have hcz8_2 : w5.cell? ⟨gb187, 2, none⟩ = some (.int .i64 a0_2) := (qb BK187.out 2).trans rfl; have hcz8_3 : w5.cell? ⟨gb187, 3, none⟩ = some (.int .u32 a0_3) := (qb BK187.out 3).trans rfl; have hcz8_4 : w5.cell? ⟨gb187, 4, none⟩ = some (.int .i64 a0_4) := (qb BK187.out 4).trans rfl; have hcz8_5 : w5.cell? ⟨gb187, 5, none⟩ = some (.int .i64 a0_5) := (qb BK187.out 5).trans rfl; have hfz8_0 := qa BK187.out 0; have hfz8_1 := qa BK187.out 1; have hfz8_2 := qa BK187.out 2; have hfz8_3 := qa BK187.out 3; have hfz8_4 := qa BK187.out 4; have hfz8_5 := qa BK187.out 5))
  have n0_ : Aside0 (((((((((w5.setCell ⟨gb188, 0, none⟩ (.int .i64 a0_0)).setCell ⟨gb188, 1, none⟩ (.int .i64 0)).setCell ⟨gb188, 2, none⟩ (.int .i64 0)).setCell ⟨gb188, 3, none⟩ (.int .u32 a0_3)).setCell ⟨gb188, 4, none⟩ (.int .i64 0)).setCell ⟨gb188, 5, none⟩ (.int .i64 0)).setCell ⟨gb188, 5, none⟩ (.int .i64 a0_5)).setCell ⟨gb188, 4, none⟩ (.int .i64 a0_4)).heap[gb187]? = some (.cells #[.int .i64 a0_0, .int .i64 a0_1, .int .i64 a0_2, .int .u32 a0_3, .int .i64 a0_4, .int .i64 a0_5] 67 (0, 0))) := ⟨by (with_reducible repeat (first | refine qg ?_ _ | refine qi ?_ | refine qf ?_ _)); refine qp ?_ NB187_188.out _; (with_reducible repeat (first | refine qg ?_ _ | refine qi ?_ | refine qf ?_ _)); refine qp ?_ NB187_188.out _; (with_reducible repeat (first | refine qg ?_ _ | refine qi ?_ | refine qf ?_ _)); refine qp ?_ NB187_188.out _; (with_reducible repeat (first | refine qg ?_ _ | refine qi ?_ | refine qf ?_ _)); refine qp ?_ NB187_188.out _; (with_reducible repeat (first | refine qg ?_ _ | refine qi ?_ | refine qf ?_ _)); refine qp ?_ NB187_188.out _; (with_reducible repeat (first | refine qg ?_ _ | refine qi ?_ | refine qf ?_ _)); refine qp ?_ NB187_188.out _; (with_reducible repeat (first | refine qg ?_ _ | refine qi ?_ | refine qf ?_ _)); refine qp ?_ NB187_188.out _; (with_reducible repeat (first | refine qg ?_ _ | refine qi ?_ | refine qf ?_ _)); refine qp ?_ NB187_188.out _; (with_reducible repeat (first | refine qg ?_ _ | refine qi ?_ | refine qf ?_ _)); exact BK187.out⟩
  have n1_ : Aside0 (((((((((w5.setCell ⟨gb188, 0, none⟩ (.int .i64 a0_0)).setCell ⟨gb188, 1, none⟩ (.int .i64 0)).setCell ⟨gb188, 2, none⟩ (.int .i64 0)).setCell ⟨gb188, 3, none⟩ (.int .u32 a0_3)).setCell ⟨gb188, 4, none⟩ (.int .i64 0)).setCell ⟨gb188, 5, none⟩ (.int .i64 0)).setCell ⟨gb188, 5, none⟩ (.int .i64 a0_5)).setCell ⟨gb188, 4, none⟩ (.int .i64 a0_4)).heap[gb188]? = some (.cells #[.int .i64 a0_0, .int .i64 0, .int .i64 0, .int .u32 a0_3, .int .i64 a0_4, .int .i64 a0_5] 67 (0, 0))) := ⟨by (with_reducible repeat (first | refine qg ?_ _ | refine qi ?_ | refine qf ?_ _)); refine qt (cs := #[.int .i64 a0_0, .int .i64 0, .int .i64 0, .int .u32 a0_3, .int .i64 0, .int .i64 a0_5]) ?_ 4 _ rfl; (with_reducible repeat (first | refine qg ?_ _ | refine qi ?_ | refine qf ?_ _)); refine qt (cs := #[.int .i64 a0_0, .int .i64 0, .int .i64 0, .int .u32 a0_3, .int .i64 0, .int .i64 0]) ?_ 5 _ rfl; (with_reducible repeat (first | refine qg ?_ _ | refine qi ?_ | refine qf ?_ _)); refine qt (cs := #[.int .i64 a0_0, .int .i64 0, .int .i64 0, .int .u32 a0_3, .int .i64 0, .int .i64 0]) ?_ 5 _ rfl; (with_reducible repeat (first | refine qg ?_ _ | refine qi ?_ | refine qf ?_ _)); refine qt (cs := #[.int .i64 a0_0, .int .i64 0, .int .i64 0, .int .u32 a0_3, .int .i64 0, .int .i64 0]) ?_ 4 _ rfl; (with_reducible repeat (first | refine qg ?_ _ | refine qi ?_ | refine qf ?_ _)); refine qt (cs := #[.int .i64 a0_0, .int .i64 0, .int .i64 0, .int .u32 0, .int .i64 0, .int .i64 0]) ?_ 3 _ rfl; (with_reducible repeat (first | refine qg ?_ _ | refine qi ?_ | refine qf ?_ _)); refine qt (cs := #[.int .i64 a0_0, .int .i64 0, .int .i64 0, .int .u32 0, .int .i64 0, .int .i64 0]) ?_ 2 _ rfl; (with_reducible repeat (first | refine qg ?_ _ | refine qi ?_ | refine qf ?_ _)); refine qt (cs := #[.int .i64 a0_0, .int .i64 0, .int .i64 0, .int .u32 0, .int .i64 0, .int .i64 0]) ?_ 1 _ rfl; (with_reducible repeat (first | refine qg ?_ _ | refine qi ?_ | refine qf ?_ _)); refine qt (cs := #[.int .i64 0, .int .i64 0, .int .i64 0, .int .u32 0, .int .i64 0, .int .i64 0]) ?_ 0 _ rfl; (with_reducible repeat (first | refine qg ?_ _ | refine qi ?_ | refine qf ?_ _)); exact BK188.out⟩
  have n2_ : Aside0 (Below w.heap.size w ((((((((w5.setCell ⟨gb188, 0, none⟩ (.int .i64 a0_0)).setCell ⟨gb188, 1, none⟩ (.int .i64 0)).setCell ⟨gb188, 2, none⟩ (.int .i64 0)).setCell ⟨gb188, 3, none⟩ (.int .u32 a0_3)).setCell ⟨gb188, 4, none⟩ (.int .i64 0)).setCell ⟨gb188, 5, none⟩ (.int .i64 0)).setCell ⟨gb188, 5, none⟩ (.int .i64 a0_5)).setCell ⟨gb188, 4, none⟩ (.int .i64 a0_4))) := ⟨by repeat (first | (with_reducible first | exact HB.out | apply qe | apply qc | apply qd | refine qh ?_ GE187.out | refine qh ?_ GE188.out) | exact HB.out)⟩
  (try clear BK187)
  (try clear BK188)
  (try clear HB)
  generalize ((((((((w5.setCell ⟨gb188, 0, none⟩ (.int .i64 a0_0)).setCell ⟨gb188, 1, none⟩ (.int .i64 0)).setCell ⟨gb188, 2, none⟩ (.int .i64 0)).setCell ⟨gb188, 3, none⟩ (.int .u32 a0_3)).setCell ⟨gb188, 4, none⟩ (.int .i64 0)).setCell ⟨gb188, 5, none⟩ (.int .i64 0)).setCell ⟨gb188, 5, none⟩ (.int .i64 a0_5)).setCell ⟨gb188, 4, none⟩ (.int .i64 a0_4)) = w9 at n0_ n1_ n2_ ⊢
  have BK187 := n0_
  have BK188 := n1_
  have HB := n2_
  clear n0_ n1_ n2_
  have n0_ := Aside0.mk (qi BK187.out)
  have n1_ := Aside0.mk (qi BK188.out)
  have n2_ := Aside0.mk (qd HB.out)
  clear BK187
  clear BK188
  clear HB
  have BK187 := n0_
  have BK188 := n1_
  have HB := n2_
  clear n0_ n1_ n2_
  refine start_ (n := 8) (S := fun w' => w'.cell? ⟨gb187, 0, none⟩ = some (.int .i64 a0_0) ∧ w'.cell? ⟨gb187, 1, none⟩ = some (.int .i64 a0_1) ∧ w'.cell? ⟨gb187, 2, none⟩ = some (.int .i64 a0_2) ∧ w'.cell? ⟨gb187, 3, none⟩ = some (.int .u32 a0_3) ∧ w'.cell? ⟨gb187, 4, none⟩ = some (.int .i64 a0_4) ∧ w'.cell? ⟨gb187, 5, none⟩ = some (.int .i64 a0_5)) (ds := []) #[false, false, false, false, false, false, false, false] (by kernel_rfl) rfl rfl ⟨(qb BK187.out 0).trans rfl, (qb BK187.out 1).trans rfl, (qb BK187.out 2).trans rfl, (qb BK187.out 3).trans rfl, (qb BK187.out 4).trans rfl, (qb BK187.out 5).trans rfl⟩ (fun hHeld => ?_); refine with_tabW ir_named.tab9 ir_named.bits9 (fun HT_ HW_ => ?_)
  generalize w9.drew = w10 at BK187 BK188 HB hHeld ⊢
  refine pure_ (i := 0) (N := some 25) (v := ?_) (a' := ?_) #[true, false, false, false, false, false, false, false] rfl rfl (any_of HT_.out (by kernel_rfl)) (fun _ _ _ h => h) (Or.inl ⟨by rfl, ?_⟩) ?_ ?_
  rotate_left
  ·intro w'
   go_simp
   with_reducible rfl
  rotate_left
  ·simp only [Act.put, List.setIfInBounds_toArray, List.set_cons_zero, List.set_cons_succ, i64_w, i32_w]
   rfl
  refine pure_ (i := 2) (N := some 27) (v := ?_) (a' := ?_) #[true, false, true, false, false, false, false, false] rfl rfl (any_of HT_.out (by kernel_rfl)) (fun _ _ _ h => h) (Or.inl ⟨by rfl, ?_⟩) ?_ ?_
  rotate_left
  ·intro w'
   go_simp
   with_reducible rfl
  rotate_left
  ·simp only [Act.put, List.setIfInBounds_toArray, List.set_cons_zero, List.set_cons_succ, i64_w, i32_w]
   rfl
  refine take_ (i := 1) (N := some 26) (v := ?_) (a' := ?_) #[true, true, true, false, false, false, false, false] rfl rfl (take_ofW HT_.out HW_.out (by kernel_rfl)) (fun _ _ _ h => h) (Or.inl ⟨by rfl, ?_⟩) hHeld ?_ ?_
  rotate_left
  ·rintro w' ⟨s0, s1, s2, s3, s4, s5⟩
   go_simp
   with_reducible rfl
  rotate_left
  ·simp only [Act.put, List.setIfInBounds_toArray, List.set_cons_zero, List.set_cons_succ, i64_w, i32_w]
   rfl
  refine pure_ (i := 4) (N := some 29) (v := ?_) (a' := ?_) #[true, true, true, false, true, false, false, false] rfl rfl (any_of HT_.out (by kernel_rfl)) (fun _ _ _ h => h) (Or.inl ⟨by rfl, ?_⟩) ?_ ?_
  rotate_left
  ·intro w'
   go_simp
   with_reducible rfl
  rotate_left
  ·simp only [Act.put, List.setIfInBounds_toArray, List.set_cons_zero, List.set_cons_succ, i64_w, i32_w]
   rfl
  refine take_ (i := 3) (N := some 28) (v := ?_) (a' := ?_) #[true, true, true, true, true, false, false, false] rfl rfl (take_ofW HT_.out HW_.out (by kernel_rfl)) (fun _ _ _ h => h) (Or.inl ⟨by rfl, ?_⟩) hHeld ?_ ?_
  rotate_left
  ·rintro w' ⟨s0, s1, s2, s3, s4, s5⟩
   go_simp
   with_reducible rfl
  rotate_left
  ·simp only [Act.put, List.setIfInBounds_toArray, List.set_cons_zero, List.set_cons_succ, i64_w, i32_w]
   rfl
  refine one_ (i := 5) (N := none) #[true, true, true, true, true, true, false, false] rfl rfl (one_of HT_.out (by kernel_rfl)) (by decide) (fun K hK => ?_)
  have hs11 : w10.cell? ⟨gb188, 1, none⟩ = some (.int .i64 0) := (qb BK188.out 1).trans rfl
  have hfs11 := qa BK188.out 1
  have hns11_0 := NB187_188.out
  have hms11_0 := NB188_187.out
  refine skip_ (w1 := ?_) (by rfl) rfl ?_ ?_
  rotate_left
  ·go_simp
   rfl
  refine hK.out _ _ ⟨((qy (p := ⟨gb188, _, none⟩) NB187_188.out _).trans (hHeld.1)), ((qy (p := ⟨gb188, _, none⟩) NB187_188.out _).trans (hHeld.2.1)), ((qy (p := ⟨gb188, _, none⟩) NB187_188.out _).trans (hHeld.2.2.1)), ((qy (p := ⟨gb188, _, none⟩) NB187_188.out _).trans (hHeld.2.2.2.1)), ((qy (p := ⟨gb188, _, none⟩) NB187_188.out _).trans (hHeld.2.2.2.2.1)), ((qy (p := ⟨gb188, _, none⟩) NB187_188.out _).trans (hHeld.2.2.2.2.2))⟩ (fun hHeld => ?_)
  clear hK K
  refine pure_ (i := 6) (N := some 30) (v := ?_) (a' := ?_) #[true, true, true, true, true, true, true, false] rfl rfl (any_of HT_.out (by kernel_rfl)) (fun _ _ _ h => h) (Or.inl ⟨by rfl, ?_⟩) ?_ ?_
  rotate_left
  ·intro w'
   go_simp
   with_reducible rfl
  rotate_left
  ·simp only [Act.put, List.setIfInBounds_toArray, List.set_cons_zero, List.set_cons_succ, i64_w, i32_w]
   rfl
  refine one_ (i := 7) (N := none) #[true, true, true, true, true, true, true, true] rfl rfl (one_of HT_.out (by kernel_rfl)) (by decide) (fun K hK => ?_)
  have hs12 : w10.cell? ⟨gb188, 2, none⟩ = some (.int .i64 0) := (qb BK188.out 2).trans rfl
  have hfs12 := qa BK188.out 2
  have hns12_0 := NB187_188.out
  have hms12_0 := NB188_187.out
  refine skip_ (w1 := ?_) (by rfl) rfl ?_ ?_
  rotate_left
  ·go_simp
   rfl
  refine hK.out _ _ ⟨((qy (p := ⟨gb188, _, none⟩) NB187_188.out _).trans (hHeld.1)), ((qy (p := ⟨gb188, _, none⟩) NB187_188.out _).trans (hHeld.2.1)), ((qy (p := ⟨gb188, _, none⟩) NB187_188.out _).trans (hHeld.2.2.1)), ((qy (p := ⟨gb188, _, none⟩) NB187_188.out _).trans (hHeld.2.2.2.1)), ((qy (p := ⟨gb188, _, none⟩) NB187_188.out _).trans (hHeld.2.2.2.2.1)), ((qy (p := ⟨gb188, _, none⟩) NB187_188.out _).trans (hHeld.2.2.2.2.2))⟩ (fun hHeld => ?_)
  clear hK K
  refine done_ (done_of HT_.out (by kernel_rfl)) ?_
  have hcz13_0 : w10.cell? ⟨gb188, 0, none⟩ = some (.int .i64 a0_0) := (qb BK188.out 0).trans rfl
  have hcz13_1 : w10.cell? ⟨gb188, 1, none⟩ = some (.int .i64 0) := (qb BK188.out 1).trans rfl
  have hcz13_2 : w10.cell? ⟨gb188, 2, none⟩ = some (.int .i64 0) := (qb BK188.out 2).trans rfl
  have hcz13_3 : w10.cell? ⟨gb188, 3, none⟩ = some (.int .u32 a0_3) := (qb BK188.out 3).trans rfl
  have hcz13_4 : w10.cell? ⟨gb188, 4, none⟩ = some (.int .i64 a0_4) := (qb BK188.out 4).trans rfl
  have hcz13_5 : w10.cell? ⟨gb188, 5, none⟩ = some (.int .i64 a0_5) := (qb BK188.out 5).trans rfl
  have hfz13_0 := qa BK188.out 0
  have hfz13_1 := qa BK188.out 1
  have hfz13_2 := qa BK188.out 2
  have hfz13_3 := qa BK188.out 3
  have hfz13_4 := qa BK188.out 4
  have hfz13_5 := qa BK188.out 5
  have hcz14_0 : w10.cell? ⟨gb187, 0, none⟩ = some (.int .i64 a0_0) := (qb BK187.out 0).trans rfl
  have hcz14_1 : w10.cell? ⟨gb187, 1, none⟩ = some (.int .i64 a0_1) := (qb BK187.out 1).trans rfl
  have hcz14_2 : w10.cell? ⟨gb187, 2, none⟩ = some (.int .i64 a0_2) := (qb BK187.out 2).trans rfl
  have hcz14_3 : w10.cell? ⟨gb187, 3, none⟩ = some (.int .u32 a0_3) := (qb BK187.out 3).trans rfl
  have hcz14_4 : w10.cell? ⟨gb187, 4, none⟩ = some (.int .i64 a0_4) := (qb BK187.out 4).trans rfl
  have hcz14_5 : w10.cell? ⟨gb187, 5, none⟩ = some (.int .i64 a0_5) := (qb BK187.out 5).trans rfl
  have hfz14_0 := qa BK187.out 0
  have hfz14_1 := qa BK187.out 1
  have hfz14_2 := qa BK187.out 2
  have hfz14_3 := qa BK187.out 3
  have hfz14_4 := qa BK187.out 4
  have hfz14_5 := qa BK187.out 5
  try go_wp2
  go_ret
  exact ⟨by first | rfl | (simp [ql, qm] <;> rfl) | (simp [*, ql, qm] <;> rfl), by repeat (first | (with_reducible first | exact HB.out | apply qe | apply qc | apply qd | refine qh ?_ GE187.out | refine qh ?_ GE188.out) | exact HB.out)⟩
 ·rw [if_neg c2] at H
  have c2b0 : (a0_0 == 5) = false := beq_eq_false_iff_ne.mpr c2
  have c2b1 : (a0_0 != 5) = true := bne_iff_ne.mpr c2
  by_cases c15 : a0_0 = 6
  ·rw [if_pos c15] at H
   have c15b0 : (a0_0 == 6) = true := beq_iff_eq.mpr c15
   have c15b1 : (a0_0 != 6) = false := bne_eq_false_iff_eq.mpr c15
   clear c15
   obtain rfl := Option.some.inj H
   go_enter Try.func134, Try.ntmps134
   try go_wp2_with (first | ((with_reducible refine qB (N := 1) rfl ?_); refine qA ?hg (N := 1) ?hd (cs := #[.int .i64 a0_0, .int .i64 a0_1, .int .i64 a0_2, .int .u32 a0_3, .int .i64 a0_4, .int .i64 a0_5]) (t := 67) ?hr ?_; (case hd => rfl); (case hg => rfl); (case hr => first | (go_simp; done) | (go_simp; rfl)); intro gb187 hg w16 hbox hb; have n0_ := Aside0.mk (qq (by repeat (first | (with_reducible first | exact HB.out | apply qe | apply qc | apply qd) | exact HB.out)) hb); have n1_ := Aside0.mk (hbox); have n2_ := Aside0.mk ((by rw [hg]; exact (qr (by repeat (first | (with_reducible first | exact HB.out | apply qe | apply qc | apply qd) | exact HB.out))) : w.heap.size ≤ gb187)); have n3_ := Aside0.mk ((by rw [hg]; exact (qr (by repeat (first | (with_reducible first | exact HB.out | apply qe | apply qc | apply qd) | exact HB.out))) : w.heap.size ≤ gb187)); clear HB; have HB := n0_; have BK187 := n1_; have GW187 := n2_; have GE187 := n3_; clear n0_ n1_ n2_ n3_; clear hb hbox hg; have hcz17_0 : w16.cell? ⟨gb187, 0, none⟩ = some (.int .i64 a0_0) := (qb BK187.out 0).trans rfl; have hcz17_1 : w16.cell? ⟨gb187, 1, none⟩ = some (.int .i64 a0_1) := (qb BK187.out 1).trans rfl; have hcz17_2 : w16.cell? ⟨gb187, 2, none⟩ = some (.int .i64 a0_2) := (qb BK187.out 2).trans rfl; have hcz17_3 : w16.cell? ⟨gb187, 3, none⟩ = some (.int .u32 a0_3) := (qb BK187.out 3).trans rfl; have hcz17_4 : w16.cell? ⟨gb187, 4, none⟩ = some (.int .i64 a0_4) := (qb BK187.out 4).trans rfl; have hcz17_5 : w16.cell? ⟨gb187, 5, none⟩ = some (.int .i64 a0_5) := (qb BK187.out 5).trans rfl; have hfz17_0 := qa BK187.out 0; have hfz17_1 := qa BK187.out 1; have hfz17_2 := qa BK187.out 2; have hfz17_3 := qa BK187.out 3; have hfz17_4 := qa BK187.out 4; have hfz17_5 := qa BK187.out 5) | ((with_reducible refine qB (N := 3) rfl ?_); refine qA ?hg (N := 3) ?hd (cs := #[.int .i64 0, .int .i64 0, .int .i64 0, .int .u32 0, .int .i64 0, .int .i64 0]) (t := 67) ?hr ?_; (case hd => rfl); (case hg => rfl); (case hr => first | (go_simp; done) | (go_simp; rfl)); intro gb188 hg w18 hbox hb; have n0_ := Aside0.mk (qo (g := gb187) (o := .cells #[.int .i64 a0_0, .int .i64 a0_1, .int .i64 a0_2, .int .u32 a0_3, .int .i64 a0_4, .int .i64 a0_5] 67 (0, 0)) (by (with_reducible repeat (first | refine qg ?_ _ | refine qi ?_ | refine qf ?_ _)); exact BK187.out) hb); have n1_ := Aside0.mk (qq (by repeat (first | (with_reducible first | exact HB.out | apply qe | apply qc | apply qd | refine qh ?_ GE187.out) | exact HB.out)) hb); have n2_ := Aside0.mk (hbox); have n3_ := Aside0.mk ((by rw [hg]; exact (qr (by repeat (first | (with_reducible first | exact HB.out | apply qe | apply qc | apply qd | refine qh ?_ GE187.out) | exact HB.out))) : w.heap.size ≤ gb188)); have n4_ := Aside0.mk ((by rw [hg]; exact (qr (by repeat (first | (with_reducible first | exact HB.out | apply qe | apply qc | apply qd | refine qh ?_ GE187.out) | exact HB.out))) : w.heap.size ≤ gb188)); have n5_ := Aside0.mk ((by rw [hg]; exact nne9 (qG (g := gb187) (o := .cells #[.int .i64 a0_0, .int .i64 a0_1, .int .i64 a0_2, .int .u32 a0_3, .int .i64 a0_4, .int .i64 a0_5] 67 (0, 0)) (by (with_reducible repeat (first | refine qg ?_ _ | refine qi ?_ | refine qf ?_ _)); exact BK187.out)) : gb187 ≠ gb188)); have n6_ := Aside0.mk ((by rw [hg]; exact Nat.ne_of_gt (qG (g := gb187) (o := .cells #[.int .i64 a0_0, .int .i64 a0_1, .int .i64 a0_2, .int .u32 a0_3, .int .i64 a0_4, .int .i64 a0_5] 67 (0, 0)) (by (with_reducible repeat (first | refine qg ?_ _ | refine qi ?_ | refine qf ?_ _)); exact BK187.out)) : gb188 ≠ gb187)); clear BK187; clear HB; have BK187 := n0_; have HB := n1_; have BK188 := n2_; have GW188 := n3_; have GE188 := n4_; have NB187_188 := n5_; have NB188_187 := n6_; clear n0_ n1_ n2_ n3_ n4_ n5_ n6_; clear hb hbox hg; have hnb19 := NB188_187.out; have hnc19 := NB187_188.out; have hcz20_0 : w18.cell? ⟨gb188, 0, none⟩ = some (.int .i64 0) := (qb BK188.out 0).trans rfl; have hcz20_1 : w18.cell? ⟨gb188, 1, none⟩ = some (.int .i64 0) := (qb BK188.out 1).trans rfl; have hcz20_2 : w18.cell? ⟨gb188, 2, none⟩ = some (.int .i64 0) := (qb BK188.out 2).trans rfl; have hcz20_3 : w18.cell? ⟨gb188, 3, none⟩ = some (.int .u32 0) := (qb BK188.out 3).trans rfl; have hcz20_4 : w18.cell? ⟨gb188, 4, none⟩ = some (.int .i64 0) := (qb BK188.out 4).trans rfl; have hcz20_5 : w18.cell? ⟨gb188, 5, none⟩ = some (.int .i64 0) := (qb BK188.out 5).trans rfl; have hfz20_0 := qa BK188.out 0; have hfz20_1 := qa BK188.out 1; have hfz20_2 := qa BK188.out 2; have hfz20_3 := qa BK188.out 3; have hfz20_4 := qa BK188.out 4; have hfz20_5 := qa BK188.out 5; have hcz21_0 : w18.cell? ⟨gb187, 0, none⟩ = some (.int .i64 a0_0) := (qb BK187.out 0).trans rfl; have hcz21_1 : w18.cell? ⟨gb187, 1, none⟩ = some (.int .i64 a0_1) := (qb BK187.out 1).trans rfl; have hcz21_2 : w18.cell? ⟨gb187, 2, none⟩ = some (.int .i64 a0_2) := (qb BK187.out 2).trans rfl; have hcz21_3 : w18.cell? ⟨gb187, 3, none⟩ = some (.int .u32 a0_3) := (qb BK187.out 3).trans rfl; have hcz21_4 : w18.cell? ⟨gb187, 4, none⟩ = some (.int .i64 a0_4) := (qb BK187.out 4).trans rfl; have hcz21_5 : w18.cell? ⟨gb187, 5, none⟩ = some (.int .i64 a0_5) := (qb BK187.out 5).trans rfl; have hfz21_0 := qa BK187.out 0; have hfz21_1 := qa BK187.out 1; have hfz21_2 := qa BK187.out 2; have hfz21_3 := qa BK187.out 3; have hfz21_4 := qa BK187.out 4; have hfz21_5 := qa BK187.out 5))
   have n0_ : Aside0 ((((((((w18.setCell ⟨gb188, 0, none⟩ (.int .i64 a0_0)).setCell ⟨gb188, 1, none⟩ (.int .i64 0)).setCell ⟨gb188, 2, none⟩ (.int .i64 0)).setCell ⟨gb188, 3, none⟩ (.int .u32 a0_3)).setCell ⟨gb188, 4, none⟩ (.int .i64 0)).setCell ⟨gb188, 5, none⟩ (.int .i64 0)).setCell ⟨gb188, 4, none⟩ (.int .i64 a0_4)).heap[gb187]? = some (.cells #[.int .i64 a0_0, .int .i64 a0_1, .int .i64 a0_2, .int .u32 a0_3, .int .i64 a0_4, .int .i64 a0_5] 67 (0, 0))) := ⟨by (with_reducible repeat (first | refine qg ?_ _ | refine qi ?_ | refine qf ?_ _)); refine qp ?_ NB187_188.out _; (with_reducible repeat (first | refine qg ?_ _ | refine qi ?_ | refine qf ?_ _)); refine qp ?_ NB187_188.out _; (with_reducible repeat (first | refine qg ?_ _ | refine qi ?_ | refine qf ?_ _)); refine qp ?_ NB187_188.out _; (with_reducible repeat (first | refine qg ?_ _ | refine qi ?_ | refine qf ?_ _)); refine qp ?_ NB187_188.out _; (with_reducible repeat (first | refine qg ?_ _ | refine qi ?_ | refine qf ?_ _)); refine qp ?_ NB187_188.out _; (with_reducible repeat (first | refine qg ?_ _ | refine qi ?_ | refine qf ?_ _)); refine qp ?_ NB187_188.out _; (with_reducible repeat (first | refine qg ?_ _ | refine qi ?_ | refine qf ?_ _)); refine qp ?_ NB187_188.out _; (with_reducible repeat (first | refine qg ?_ _ | refine qi ?_ | refine qf ?_ _)); exact BK187.out⟩
   have n1_ : Aside0 ((((((((w18.setCell ⟨gb188, 0, none⟩ (.int .i64 a0_0)).setCell ⟨gb188, 1, none⟩ (.int .i64 0)).setCell ⟨gb188, 2, none⟩ (.int .i64 0)).setCell ⟨gb188, 3, none⟩ (.int .u32 a0_3)).setCell ⟨gb188, 4, none⟩ (.int .i64 0)).setCell ⟨gb188, 5, none⟩ (.int .i64 0)).setCell ⟨gb188, 4, none⟩ (.int .i64 a0_4)).heap[gb188]? = some (.cells #[.int .i64 a0_0, .int .i64 0, .int .i64 0, .int .u32 a0_3, .int .i64 a0_4, .int .i64 0] 67 (0, 0))) := ⟨by (with_reducible repeat (first | refine qg ?_ _ | refine qi ?_ | refine qf ?_ _)); refine qt (cs := #[.int .i64 a0_0, .int .i64 0, .int .i64 0, .int .u32 a0_3, .int .i64 0, .int .i64 0]) ?_ 4 _ rfl; (with_reducible repeat (first | refine qg ?_ _ | refine qi ?_ | refine qf ?_ _)); refine qt (cs := #[.int .i64 a0_0, .int .i64 0, .int .i64 0, .int .u32 a0_3, .int .i64 0, .int .i64 0]) ?_ 5 _ rfl; (with_reducible repeat (first | refine qg ?_ _ | refine qi ?_ | refine qf ?_ _)); refine qt (cs := #[.int .i64 a0_0, .int .i64 0, .int .i64 0, .int .u32 a0_3, .int .i64 0, .int .i64 0]) ?_ 4 _ rfl; (with_reducible repeat (first | refine qg ?_ _ | refine qi ?_ | refine qf ?_ _)); refine qt (cs := #[.int .i64 a0_0, .int .i64 0, .int .i64 0, .int .u32 0, .int .i64 0, .int .i64 0]) ?_ 3 _ rfl; (with_reducible repeat (first | refine qg ?_ _ | refine qi ?_ | refine qf ?_ _)); refine qt (cs := #[.int .i64 a0_0, .int .i64 0, .int .i64 0, .int .u32 0, .int .i64 0, .int .i64 0]) ?_ 2 _ rfl; (with_reducible repeat (first | refine qg ?_ _ | refine qi ?_ | refine qf ?_ _)); refine qt (cs := #[.int .i64 a0_0, .int .i64 0, .int .i64 0, .int .u32 0, .int .i64 0, .int .i64 0]) ?_ 1 _ rfl; (with_reducible repeat (first | refine qg ?_ _ | refine qi ?_ | refine qf ?_ _)); refine qt (cs := #[.int .i64 0, .int .i64 0, .int .i64 0, .int .u32 0, .int .i64 0, .int .i64 0]) ?_ 0 _ rfl; (with_reducible repeat (first | refine qg ?_ _ | refine qi ?_ | refine qf ?_ _)); exact BK188.out⟩
   have n2_ : Aside0 (Below w.heap.size w (((((((w18.setCell ⟨gb188, 0, none⟩ (.int .i64 a0_0)).setCell ⟨gb188, 1, none⟩ (.int .i64 0)).setCell ⟨gb188, 2, none⟩ (.int .i64 0)).setCell ⟨gb188, 3, none⟩ (.int .u32 a0_3)).setCell ⟨gb188, 4, none⟩ (.int .i64 0)).setCell ⟨gb188, 5, none⟩ (.int .i64 0)).setCell ⟨gb188, 4, none⟩ (.int .i64 a0_4))) := ⟨by repeat (first | (with_reducible first | exact HB.out | apply qe | apply qc | apply qd | refine qh ?_ GE187.out | refine qh ?_ GE188.out) | exact HB.out)⟩
   (try clear BK187)
   (try clear BK188)
   (try clear HB)
   generalize (((((((w18.setCell ⟨gb188, 0, none⟩ (.int .i64 a0_0)).setCell ⟨gb188, 1, none⟩ (.int .i64 0)).setCell ⟨gb188, 2, none⟩ (.int .i64 0)).setCell ⟨gb188, 3, none⟩ (.int .u32 a0_3)).setCell ⟨gb188, 4, none⟩ (.int .i64 0)).setCell ⟨gb188, 5, none⟩ (.int .i64 0)).setCell ⟨gb188, 4, none⟩ (.int .i64 a0_4)) = w22 at n0_ n1_ n2_ ⊢
   have BK187 := n0_
   have BK188 := n1_
   have HB := n2_
   clear n0_ n1_ n2_
   have n0_ := Aside0.mk (qi BK187.out)
   have n1_ := Aside0.mk (qi BK188.out)
   have n2_ := Aside0.mk (qd HB.out)
   clear BK187
   clear BK188
   clear HB
   have BK187 := n0_
   have BK188 := n1_
   have HB := n2_
   clear n0_ n1_ n2_
   refine start_ (n := 8) (S := fun w' => w'.cell? ⟨gb187, 0, none⟩ = some (.int .i64 a0_0) ∧ w'.cell? ⟨gb187, 1, none⟩ = some (.int .i64 a0_1) ∧ w'.cell? ⟨gb187, 2, none⟩ = some (.int .i64 a0_2) ∧ w'.cell? ⟨gb187, 3, none⟩ = some (.int .u32 a0_3) ∧ w'.cell? ⟨gb187, 4, none⟩ = some (.int .i64 a0_4) ∧ w'.cell? ⟨gb187, 5, none⟩ = some (.int .i64 a0_5)) (ds := []) #[false, false, false, false, false, false, false, false] (by kernel_rfl) rfl rfl ⟨(qb BK187.out 0).trans rfl, (qb BK187.out 1).trans rfl, (qb BK187.out 2).trans rfl, (qb BK187.out 3).trans rfl, (qb BK187.out 4).trans rfl, (qb BK187.out 5).trans rfl⟩ (fun hHeld => ?_); refine with_tabW ir_named.tab9 ir_named.bits9 (fun HT_ HW_ => ?_)
   generalize w22.drew = w23 at BK187 BK188 HB hHeld ⊢
   refine pure_ (i := 0) (N := some 25) (v := ?_) (a' := ?_) #[true, false, false, false, false, false, false, false] rfl rfl (any_of HT_.out (by kernel_rfl)) (fun _ _ _ h => h) (Or.inl ⟨by rfl, ?_⟩) ?_ ?_
   rotate_left
   ·intro w'
    go_simp
    with_reducible rfl
   rotate_left
   ·simp only [Act.put, List.setIfInBounds_toArray, List.set_cons_zero, List.set_cons_succ, i64_w, i32_w]
    rfl
   refine pure_ (i := 2) (N := some 27) (v := ?_) (a' := ?_) #[true, false, true, false, false, false, false, false] rfl rfl (any_of HT_.out (by kernel_rfl)) (fun _ _ _ h => h) (Or.inl ⟨by rfl, ?_⟩) ?_ ?_
   rotate_left
   ·intro w'
    go_simp
    with_reducible rfl
   rotate_left
   ·simp only [Act.put, List.setIfInBounds_toArray, List.set_cons_zero, List.set_cons_succ, i64_w, i32_w]
    rfl
   refine take_ (i := 1) (N := some 26) (v := ?_) (a' := ?_) #[true, true, true, false, false, false, false, false] rfl rfl (take_ofW HT_.out HW_.out (by kernel_rfl)) (fun _ _ _ h => h) (Or.inl ⟨by rfl, ?_⟩) hHeld ?_ ?_
   rotate_left
   ·rintro w' ⟨s0, s1, s2, s3, s4, s5⟩
    go_simp
    with_reducible rfl
   rotate_left
   ·simp only [Act.put, List.setIfInBounds_toArray, List.set_cons_zero, List.set_cons_succ, i64_w, i32_w]
    rfl
   refine pure_ (i := 4) (N := some 29) (v := ?_) (a' := ?_) #[true, true, true, false, true, false, false, false] rfl rfl (any_of HT_.out (by kernel_rfl)) (fun _ _ _ h => h) (Or.inl ⟨by rfl, ?_⟩) ?_ ?_
   rotate_left
   ·intro w'
    go_simp
    with_reducible rfl
   rotate_left
   ·simp only [Act.put, List.setIfInBounds_toArray, List.set_cons_zero, List.set_cons_succ, i64_w, i32_w]
    rfl
   refine take_ (i := 3) (N := some 28) (v := ?_) (a' := ?_) #[true, true, true, true, true, false, false, false] rfl rfl (take_ofW HT_.out HW_.out (by kernel_rfl)) (fun _ _ _ h => h) (Or.inl ⟨by rfl, ?_⟩) hHeld ?_ ?_
   rotate_left
   ·rintro w' ⟨s0, s1, s2, s3, s4, s5⟩
    go_simp
    with_reducible rfl
   rotate_left
   ·simp only [Act.put, List.setIfInBounds_toArray, List.set_cons_zero, List.set_cons_succ, i64_w, i32_w]
    rfl
   refine one_ (i := 5) (N := none) #[true, true, true, true, true, true, false, false] rfl rfl (one_of HT_.out (by kernel_rfl)) (by decide) (fun K hK => ?_)
   have hs24 : w23.cell? ⟨gb188, 1, none⟩ = some (.int .i64 0) := (qb BK188.out 1).trans rfl
   have hfs24 := qa BK188.out 1
   have hns24_0 := NB187_188.out
   have hms24_0 := NB188_187.out
   refine skip_ (w1 := ?_) (by rfl) rfl ?_ ?_
   rotate_left
   ·go_simp
    rfl
   refine hK.out _ _ ⟨((qy (p := ⟨gb188, _, none⟩) NB187_188.out _).trans (hHeld.1)), ((qy (p := ⟨gb188, _, none⟩) NB187_188.out _).trans (hHeld.2.1)), ((qy (p := ⟨gb188, _, none⟩) NB187_188.out _).trans (hHeld.2.2.1)), ((qy (p := ⟨gb188, _, none⟩) NB187_188.out _).trans (hHeld.2.2.2.1)), ((qy (p := ⟨gb188, _, none⟩) NB187_188.out _).trans (hHeld.2.2.2.2.1)), ((qy (p := ⟨gb188, _, none⟩) NB187_188.out _).trans (hHeld.2.2.2.2.2))⟩ (fun hHeld => ?_)
   clear hK K
   refine pure_ (i := 6) (N := some 30) (v := ?_) (a' := ?_) #[true, true, true, true, true, true, true, false] rfl rfl (any_of HT_.out (by kernel_rfl)) (fun _ _ _ h => h) (Or.inl ⟨by rfl, ?_⟩) ?_ ?_
   rotate_left
   ·intro w'
    go_simp
    with_reducible rfl
   rotate_left
   ·simp only [Act.put, List.setIfInBounds_toArray, List.set_cons_zero, List.set_cons_succ, i64_w, i32_w]
    rfl
   refine one_ (i := 7) (N := none) #[true, true, true, true, true, true, true, true] rfl rfl (one_of HT_.out (by kernel_rfl)) (by decide) (fun K hK => ?_)
   have hs25 : w23.cell? ⟨gb188, 2, none⟩ = some (.int .i64 0) := (qb BK188.out 2).trans rfl
   have hfs25 := qa BK188.out 2
   have hns25_0 := NB187_188.out
   have hms25_0 := NB188_187.out
   refine skip_ (w1 := ?_) (by rfl) rfl ?_ ?_
   rotate_left
   ·go_simp
    rfl
   refine hK.out _ _ ⟨((qy (p := ⟨gb188, _, none⟩) NB187_188.out _).trans (hHeld.1)), ((qy (p := ⟨gb188, _, none⟩) NB187_188.out _).trans (hHeld.2.1)), ((qy (p := ⟨gb188, _, none⟩) NB187_188.out _).trans (hHeld.2.2.1)), ((qy (p := ⟨gb188, _, none⟩) NB187_188.out _).trans (hHeld.2.2.2.1)), ((qy (p := ⟨gb188, _, none⟩) NB187_188.out _).trans (hHeld.2.2.2.2.1)), ((qy (p := ⟨gb188, _, none⟩) NB187_188.out _).trans (hHeld.2.2.2.2.2))⟩ (fun hHeld => ?_)
   clear hK K
   refine done_ (done_of HT_.out (by kernel_rfl)) ?_
   have hcz26_0 : w23.cell? ⟨gb188, 0, none⟩ = some (.int .i64 a0_0) := (qb BK188.out 0).trans rfl
   have hcz26_1 : w23.cell? ⟨gb188, 1, none⟩ = some (.int .i64 0) := (qb BK188.out 1).trans rfl
   have hcz26_2 : w23.cell? ⟨gb188, 2, none⟩ = some (.int .i64 0) := (qb BK188.out 2).trans rfl
   have hcz26_3 : w23.cell? ⟨gb188, 3, none⟩ = some (.int .u32 a0_3) := (qb BK188.out 3).trans rfl
   have hcz26_4 : w23.cell? ⟨gb188, 4, none⟩ = some (.int .i64 a0_4) := (qb BK188.out 4).trans rfl
   have hcz26_5 : w23.cell? ⟨gb188, 5, none⟩ = some (.int .i64 0) := (qb BK188.out 5).trans rfl
   have hfz26_0 := qa BK188.out 0
   have hfz26_1 := qa BK188.out 1
   have hfz26_2 := qa BK188.out 2
   have hfz26_3 := qa BK188.out 3
   have hfz26_4 := qa BK188.out 4
   have hfz26_5 := qa BK188.out 5
   have hcz27_0 : w23.cell? ⟨gb187, 0, none⟩ = some (.int .i64 a0_0) := (qb BK187.out 0).trans rfl
   have hcz27_1 : w23.cell? ⟨gb187, 1, none⟩ = some (.int .i64 a0_1) := (qb BK187.out 1).trans rfl
   have hcz27_2 : w23.cell? ⟨gb187, 2, none⟩ = some (.int .i64 a0_2) := (qb BK187.out 2).trans rfl
   have hcz27_3 : w23.cell? ⟨gb187, 3, none⟩ = some (.int .u32 a0_3) := (qb BK187.out 3).trans rfl
   have hcz27_4 : w23.cell? ⟨gb187, 4, none⟩ = some (.int .i64 a0_4) := (qb BK187.out 4).trans rfl
   have hcz27_5 : w23.cell? ⟨gb187, 5, none⟩ = some (.int .i64 a0_5) := (qb BK187.out 5).trans rfl
   have hfz27_0 := qa BK187.out 0
   have hfz27_1 := qa BK187.out 1
   have hfz27_2 := qa BK187.out 2
   have hfz27_3 := qa BK187.out 3
   have hfz27_4 := qa BK187.out 4
   have hfz27_5 := qa BK187.out 5
   try go_wp2
   go_ret
   exact ⟨by first | rfl | (simp [ql, qm] <;> rfl) | (simp [*, ql, qm] <;> rfl), by repeat (first | (with_reducible first | exact HB.out | apply qe | apply qc | apply qd | refine qh ?_ GE187.out | refine qh ?_ GE188.out) | exact HB.out)⟩
  ·rw [if_neg c15] at H
   have c15b0 : (a0_0 == 6) = false := beq_eq_false_iff_ne.mpr c15
   have c15b1 : (a0_0 != 6) = true := bne_iff_ne.mpr c15
   by_cases c28 : a0_0 = 3
   ·rw [if_pos c28] at H
    have c28b0 : (a0_0 == 3) = true := beq_iff_eq.mpr c28
    have c28b1 : (a0_0 != 3) = false := bne_eq_false_iff_eq.mpr c28
    clear c28
    obtain rfl := Option.some.inj H
    go_enter Try.func134, Try.ntmps134
    try go_wp2_with (first | ((with_reducible refine qB (N := 1) rfl ?_); refine qA ?hg (N := 1) ?hd (cs := #[.int .i64 a0_0, .int .i64 a0_1, .int .i64 a0_2, .int .u32 a0_3, .int .i64 a0_4, .int .i64 a0_5]) (t := 67) ?hr ?_; (case hd => rfl); (case hg => rfl); (case hr => first | (go_simp; done) | (go_simp; rfl)); intro gb187 hg w29 hbox hb; have n0_ := Aside0.mk (qq (by repeat (first | (with_reducible first | exact HB.out | apply qe | apply qc | apply qd) | exact HB.out)) hb); have n1_ := Aside0.mk (hbox); have n2_ := Aside0.mk ((by rw [hg]; exact (qr (by repeat (first | (with_reducible first | exact HB.out | apply qe | apply qc | apply qd) | exact HB.out))) : w.heap.size ≤ gb187)); have n3_ := Aside0.mk ((by rw [hg]; exact (qr (by repeat (first | (with_reducible first | exact HB.out | apply qe | apply qc | apply qd) | exact HB.out))) : w.heap.size ≤ gb187)); clear HB; have HB := n0_; have BK187 := n1_; have GW187 := n2_; have GE187 := n3_; clear n0_ n1_ n2_ n3_; clear hb hbox hg; have hcz30_0 : w29.cell? ⟨gb187, 0, none⟩ = some (.int .i64 a0_0) := (qb BK187.out 0).trans rfl; have hcz30_1 : w29.cell? ⟨gb187, 1, none⟩ = some (.int .i64 a0_1) := (qb BK187.out 1).trans rfl; have hcz30_2 : w29.cell? ⟨gb187, 2, none⟩ = some (.int .i64 a0_2) := (qb BK187.out 2).trans rfl; have hcz30_3 : w29.cell? ⟨gb187, 3, none⟩ = some (.int .u32 a0_3) := (qb BK187.out 3).trans rfl; have hcz30_4 : w29.cell? ⟨gb187, 4, none⟩ = some (.int .i64 a0_4) := (qb BK187.out 4).trans rfl; have hcz30_5 : w29.cell? ⟨gb187, 5, none⟩ = some (.int .i64 a0_5) := (qb BK187.out 5).trans rfl; have hfz30_0 := qa BK187.out 0; have hfz30_1 := qa BK187.out 1; have hfz30_2 := qa BK187.out 2; have hfz30_3 := qa BK187.out 3; have hfz30_4 := qa BK187.out 4; have hfz30_5 := qa BK187.out 5) | ((with_reducible refine qB (N := 3) rfl ?_); refine qA ?hg (N := 3) ?hd (cs := #[.int .i64 0, .int .i64 0, .int .i64 0, .int .u32 0, .int .i64 0, .int .i64 0]) (t := 67) ?hr ?_; (case hd => rfl); (case hg => rfl); (case hr => first | (go_simp; done) | (go_simp; rfl)); intro gb188 hg w31 hbox hb; have n0_ := Aside0.mk (qo (g := gb187) (o := .cells #[.int .i64 a0_0, .int .i64 a0_1, .int .i64 a0_2, .int .u32 a0_3, .int .i64 a0_4, .int .i64 a0_5] 67 (0, 0)) (by (with_reducible repeat (first | refine qg ?_ _ | refine qi ?_ | refine qf ?_ _)); exact BK187.out) hb); have n1_ := Aside0.mk (qq (by repeat (first | (with_reducible first | exact HB.out | apply qe | apply qc | apply qd | refine qh ?_ GE187.out) | exact HB.out)) hb); have n2_ := Aside0.mk (hbox); have n3_ := Aside0.mk ((by rw [hg]; exact (qr (by repeat (first | (with_reducible first | exact HB.out | apply qe | apply qc | apply qd | refine qh ?_ GE187.out) | exact HB.out))) : w.heap.size ≤ gb188)); have n4_ := Aside0.mk ((by rw [hg]; exact (qr (by repeat (first | (with_reducible first | exact HB.out | apply qe | apply qc | apply qd | refine qh ?_ GE187.out) | exact HB.out))) : w.heap.size ≤ gb188)); have n5_ := Aside0.mk ((by rw [hg]; exact nne9 (qG (g := gb187) (o := .cells #[.int .i64 a0_0, .int .i64 a0_1, .int .i64 a0_2, .int .u32 a0_3, .int .i64 a0_4, .int .i64 a0_5] 67 (0, 0)) (by (with_reducible repeat (first | refine qg ?_ _ | refine qi ?_ | refine qf ?_ _)); exact BK187.out)) : gb187 ≠ gb188)); have n6_ := Aside0.mk ((by rw [hg]; exact Nat.ne_of_gt (qG (g := gb187) (o := .cells #[.int .i64 a0_0, .int .i64 a0_1, .int .i64 a0_2, .int .u32 a0_3, .int .i64 a0_4, .int .i64 a0_5] 67 (0, 0)) (by (with_reducible repeat (first | refine qg ?_ _ | refine qi ?_ | refine qf ?_ _)); exact BK187.out)) : gb188 ≠ gb187)); clear BK187; clear HB; have BK187 := n0_; have HB := n1_; have BK188 := n2_; have GW188 := n3_; have GE188 := n4_; have NB187_188 := n5_; have NB188_187 := n6_; clear n0_ n1_ n2_ n3_ n4_ n5_ n6_; clear hb hbox hg; have hnb32 := NB188_187.out; have hnc32 := NB187_188.out; have hcz33_0 : w31.cell? ⟨gb188, 0, none⟩ = some (.int .i64 0) := (qb BK188.out 0).trans rfl; have hcz33_1 : w31.cell? ⟨gb188, 1, none⟩ = some (.int .i64 0) := (qb BK188.out 1).trans rfl; have hcz33_2 : w31.cell? ⟨gb188, 2, none⟩ = some (.int .i64 0) := (qb BK188.out 2).trans rfl; have hcz33_3 : w31.cell? ⟨gb188, 3, none⟩ = some (.int .u32 0) := (qb BK188.out 3).trans rfl; have hcz33_4 : w31.cell? ⟨gb188, 4, none⟩ = some (.int .i64 0) := (qb BK188.out 4).trans rfl; have hcz33_5 : w31.cell? ⟨gb188, 5, none⟩ = some (.int .i64 0) := (qb BK188.out 5).trans rfl; have hfz33_0 := qa BK188.out 0; have hfz33_1 := qa BK188.out 1; have hfz33_2 := qa BK188.out 2; have hfz33_3 := qa BK188.out 3; have hfz33_4 := qa BK188.out 4; have hfz33_5 := qa BK188.out 5; have hcz34_0 : w31.cell? ⟨gb187, 0, none⟩ = some (.int .i64 a0_0) := (qb BK187.out 0).trans rfl; have hcz34_1 : w31.cell? ⟨gb187, 1, none⟩ = some (.int .i64 a0_1) := (qb BK187.out 1).trans rfl; have hcz34_2 : w31.cell? ⟨gb187, 2, none⟩ = some (.int .i64 a0_2) := (qb BK187.out 2).trans rfl; have hcz34_3 : w31.cell? ⟨gb187, 3, none⟩ = some (.int .u32 a0_3) := (qb BK187.out 3).trans rfl; have hcz34_4 : w31.cell? ⟨gb187, 4, none⟩ = some (.int .i64 a0_4) := (qb BK187.out 4).trans rfl; have hcz34_5 : w31.cell? ⟨gb187, 5, none⟩ = some (.int .i64 a0_5) := (qb BK187.out 5).trans rfl; have hfz34_0 := qa BK187.out 0; have hfz34_1 := qa BK187.out 1; have hfz34_2 := qa BK187.out 2; have hfz34_3 := qa BK187.out 3; have hfz34_4 := qa BK187.out 4; have hfz34_5 := qa BK187.out 5))
    have n0_ : Aside0 (((((((w31.setCell ⟨gb188, 0, none⟩ (.int .i64 a0_0)).setCell ⟨gb188, 1, none⟩ (.int .i64 0)).setCell ⟨gb188, 2, none⟩ (.int .i64 0)).setCell ⟨gb188, 3, none⟩ (.int .u32 a0_3)).setCell ⟨gb188, 4, none⟩ (.int .i64 0)).setCell ⟨gb188, 5, none⟩ (.int .i64 0)).heap[gb187]? = some (.cells #[.int .i64 a0_0, .int .i64 a0_1, .int .i64 a0_2, .int .u32 a0_3, .int .i64 a0_4, .int .i64 a0_5] 67 (0, 0))) := ⟨by (with_reducible repeat (first | refine qg ?_ _ | refine qi ?_ | refine qf ?_ _)); refine qp ?_ NB187_188.out _; (with_reducible repeat (first | refine qg ?_ _ | refine qi ?_ | refine qf ?_ _)); refine qp ?_ NB187_188.out _; (with_reducible repeat (first | refine qg ?_ _ | refine qi ?_ | refine qf ?_ _)); refine qp ?_ NB187_188.out _; (with_reducible repeat (first | refine qg ?_ _ | refine qi ?_ | refine qf ?_ _)); refine qp ?_ NB187_188.out _; (with_reducible repeat (first | refine qg ?_ _ | refine qi ?_ | refine qf ?_ _)); refine qp ?_ NB187_188.out _; (with_reducible repeat (first | refine qg ?_ _ | refine qi ?_ | refine qf ?_ _)); refine qp ?_ NB187_188.out _; (with_reducible repeat (first | refine qg ?_ _ | refine qi ?_ | refine qf ?_ _)); exact BK187.out⟩
    have n1_ : Aside0 (((((((w31.setCell ⟨gb188, 0, none⟩ (.int .i64 a0_0)).setCell ⟨gb188, 1, none⟩ (.int .i64 0)).setCell ⟨gb188, 2, none⟩ (.int .i64 0)).setCell ⟨gb188, 3, none⟩ (.int .u32 a0_3)).setCell ⟨gb188, 4, none⟩ (.int .i64 0)).setCell ⟨gb188, 5, none⟩ (.int .i64 0)).heap[gb188]? = some (.cells #[.int .i64 a0_0, .int .i64 0, .int .i64 0, .int .u32 a0_3, .int .i64 0, .int .i64 0] 67 (0, 0))) := ⟨by (with_reducible repeat (first | refine qg ?_ _ | refine qi ?_ | refine qf ?_ _)); refine qt (cs := #[.int .i64 a0_0, .int .i64 0, .int .i64 0, .int .u32 a0_3, .int .i64 0, .int .i64 0]) ?_ 5 _ rfl; (with_reducible repeat (first | refine qg ?_ _ | refine qi ?_ | refine qf ?_ _)); refine qt (cs := #[.int .i64 a0_0, .int .i64 0, .int .i64 0, .int .u32 a0_3, .int .i64 0, .int .i64 0]) ?_ 4 _ rfl; (with_reducible repeat (first | refine qg ?_ _ | refine qi ?_ | refine qf ?_ _)); refine qt (cs := #[.int .i64 a0_0, .int .i64 0, .int .i64 0, .int .u32 0, .int .i64 0, .int .i64 0]) ?_ 3 _ rfl; (with_reducible repeat (first | refine qg ?_ _ | refine qi ?_ | refine qf ?_ _)); refine qt (cs := #[.int .i64 a0_0, .int .i64 0, .int .i64 0, .int .u32 0, .int .i64 0, .int .i64 0]) ?_ 2 _ rfl; (with_reducible repeat (first | refine qg ?_ _ | refine qi ?_ | refine qf ?_ _)); refine qt (cs := #[.int .i64 a0_0, .int .i64 0, .int .i64 0, .int .u32 0, .int .i64 0, .int .i64 0]) ?_ 1 _ rfl; (with_reducible repeat (first | refine qg ?_ _ | refine qi ?_ | refine qf ?_ _)); refine qt (cs := #[.int .i64 0, .int .i64 0, .int .i64 0, .int .u32 0, .int .i64 0, .int .i64 0]) ?_ 0 _ rfl; (with_reducible repeat (first | refine qg ?_ _ | refine qi ?_ | refine qf ?_ _)); exact BK188.out⟩
    have n2_ : Aside0 (Below w.heap.size w ((((((w31.setCell ⟨gb188, 0, none⟩ (.int .i64 a0_0)).setCell ⟨gb188, 1, none⟩ (.int .i64 0)).setCell ⟨gb188, 2, none⟩ (.int .i64 0)).setCell ⟨gb188, 3, none⟩ (.int .u32 a0_3)).setCell ⟨gb188, 4, none⟩ (.int .i64 0)).setCell ⟨gb188, 5, none⟩ (.int .i64 0))) := ⟨by repeat (first | (with_reducible first | exact HB.out | apply qe | apply qc | apply qd | refine qh ?_ GE187.out | refine qh ?_ GE188.out) | exact HB.out)⟩
    (try clear BK187)
    (try clear BK188)
    (try clear HB)
    generalize ((((((w31.setCell ⟨gb188, 0, none⟩ (.int .i64 a0_0)).setCell ⟨gb188, 1, none⟩ (.int .i64 0)).setCell ⟨gb188, 2, none⟩ (.int .i64 0)).setCell ⟨gb188, 3, none⟩ (.int .u32 a0_3)).setCell ⟨gb188, 4, none⟩ (.int .i64 0)).setCell ⟨gb188, 5, none⟩ (.int .i64 0)) = w35 at n0_ n1_ n2_ ⊢
    have BK187 := n0_
    have BK188 := n1_
    have HB := n2_
    clear n0_ n1_ n2_
    have n0_ := Aside0.mk (qi BK187.out)
    have n1_ := Aside0.mk (qi BK188.out)
    have n2_ := Aside0.mk (qd HB.out)
    clear BK187
    clear BK188
    clear HB
    have BK187 := n0_
    have BK188 := n1_
    have HB := n2_
    clear n0_ n1_ n2_
    refine start_ (n := 8) (S := fun w' => w'.cell? ⟨gb187, 0, none⟩ = some (.int .i64 a0_0) ∧ w'.cell? ⟨gb187, 1, none⟩ = some (.int .i64 a0_1) ∧ w'.cell? ⟨gb187, 2, none⟩ = some (.int .i64 a0_2) ∧ w'.cell? ⟨gb187, 3, none⟩ = some (.int .u32 a0_3) ∧ w'.cell? ⟨gb187, 4, none⟩ = some (.int .i64 a0_4) ∧ w'.cell? ⟨gb187, 5, none⟩ = some (.int .i64 a0_5)) (ds := []) #[false, false, false, false, false, false, false, false] (by kernel_rfl) rfl rfl ⟨(qb BK187.out 0).trans rfl, (qb BK187.out 1).trans rfl, (qb BK187.out 2).trans rfl, (qb BK187.out 3).trans rfl, (qb BK187.out 4).trans rfl, (qb BK187.out 5).trans rfl⟩ (fun hHeld => ?_); refine with_tabW ir_named.tab9 ir_named.bits9 (fun HT_ HW_ => ?_)
    generalize w35.drew = w36 at BK187 BK188 HB hHeld ⊢
    refine pure_ (i := 0) (N := some 25) (v := ?_) (a' := ?_) #[true, false, false, false, false, false, false, false] rfl rfl (any_of HT_.out (by kernel_rfl)) (fun _ _ _ h => h) (Or.inl ⟨by rfl, ?_⟩) ?_ ?_
    rotate_left
    ·intro w'
     go_simp
     with_reducible rfl
    rotate_left
    ·simp only [Act.put, List.setIfInBounds_toArray, List.set_cons_zero, List.set_cons_succ, i64_w, i32_w]
     rfl
    refine pure_ (i := 2) (N := some 27) (v := ?_) (a' := ?_) #[true, false, true, false, false, false, false, false] rfl rfl (any_of HT_.out (by kernel_rfl)) (fun _ _ _ h => h) (Or.inl ⟨by rfl, ?_⟩) ?_ ?_
    rotate_left
    ·intro w'
     go_simp
     with_reducible rfl
    rotate_left
    ·simp only [Act.put, List.setIfInBounds_toArray, List.set_cons_zero, List.set_cons_succ, i64_w, i32_w]
     rfl
    refine take_ (i := 1) (N := some 26) (v := ?_) (a' := ?_) #[true, true, true, false, false, false, false, false] rfl rfl (take_ofW HT_.out HW_.out (by kernel_rfl)) (fun _ _ _ h => h) (Or.inl ⟨by rfl, ?_⟩) hHeld ?_ ?_
    rotate_left
    ·rintro w' ⟨s0, s1, s2, s3, s4, s5⟩
     go_simp
     with_reducible rfl
    rotate_left
    ·simp only [Act.put, List.setIfInBounds_toArray, List.set_cons_zero, List.set_cons_succ, i64_w, i32_w]
     rfl
    refine pure_ (i := 4) (N := some 29) (v := ?_) (a' := ?_) #[true, true, true, false, true, false, false, false] rfl rfl (any_of HT_.out (by kernel_rfl)) (fun _ _ _ h => h) (Or.inl ⟨by rfl, ?_⟩) ?_ ?_
    rotate_left
    ·intro w'
     go_simp
     with_reducible rfl
    rotate_left
    ·simp only [Act.put, List.setIfInBounds_toArray, List.set_cons_zero, List.set_cons_succ, i64_w, i32_w]
     rfl
    refine take_ (i := 3) (N := some 28) (v := ?_) (a' := ?_) #[true, true, true, true, true, false, false, false] rfl rfl (take_ofW HT_.out HW_.out (by kernel_rfl)) (fun _ _ _ h => h) (Or.inl ⟨by rfl, ?_⟩) hHeld ?_ ?_
    rotate_left
    ·rintro w' ⟨s0, s1, s2, s3, s4, s5⟩
     go_simp
     with_reducible rfl
    rotate_left
    ·simp only [Act.put, List.setIfInBounds_toArray, List.set_cons_zero, List.set_cons_succ, i64_w, i32_w]
     rfl
    refine one_ (i := 5) (N := none) #[true, true, true, true, true, true, false, false] rfl rfl (one_of HT_.out (by kernel_rfl)) (by decide) (fun K hK => ?_)
    have hs37 : w36.cell? ⟨gb188, 1, none⟩ = some (.int .i64 0) := (qb BK188.out 1).trans rfl
    have hfs37 := qa BK188.out 1
    have hns37_0 := NB187_188.out
    have hms37_0 := NB188_187.out
    refine skip_ (w1 := ?_) (by rfl) rfl ?_ ?_
    rotate_left
    ·go_simp
     rfl
    refine hK.out _ _ ⟨((qy (p := ⟨gb188, _, none⟩) NB187_188.out _).trans (hHeld.1)), ((qy (p := ⟨gb188, _, none⟩) NB187_188.out _).trans (hHeld.2.1)), ((qy (p := ⟨gb188, _, none⟩) NB187_188.out _).trans (hHeld.2.2.1)), ((qy (p := ⟨gb188, _, none⟩) NB187_188.out _).trans (hHeld.2.2.2.1)), ((qy (p := ⟨gb188, _, none⟩) NB187_188.out _).trans (hHeld.2.2.2.2.1)), ((qy (p := ⟨gb188, _, none⟩) NB187_188.out _).trans (hHeld.2.2.2.2.2))⟩ (fun hHeld => ?_)
    clear hK K
    refine pure_ (i := 6) (N := some 30) (v := ?_) (a' := ?_) #[true, true, true, true, true, true, true, false] rfl rfl (any_of HT_.out (by kernel_rfl)) (fun _ _ _ h => h) (Or.inl ⟨by rfl, ?_⟩) ?_ ?_
    rotate_left
    ·intro w'
     go_simp
     with_reducible rfl
    rotate_left
    ·simp only [Act.put, List.setIfInBounds_toArray, List.set_cons_zero, List.set_cons_succ, i64_w, i32_w]
     rfl
    refine one_ (i := 7) (N := none) #[true, true, true, true, true, true, true, true] rfl rfl (one_of HT_.out (by kernel_rfl)) (by decide) (fun K hK => ?_)
    have hs38 : w36.cell? ⟨gb188, 2, none⟩ = some (.int .i64 0) := (qb BK188.out 2).trans rfl
    have hfs38 := qa BK188.out 2
    have hns38_0 := NB187_188.out
    have hms38_0 := NB188_187.out
    refine skip_ (w1 := ?_) (by rfl) rfl ?_ ?_
    rotate_left
    ·go_simp
     rfl
    refine hK.out _ _ ⟨((qy (p := ⟨gb188, _, none⟩) NB187_188.out _).trans (hHeld.1)), ((qy (p := ⟨gb188, _, none⟩) NB187_188.out _).trans (hHeld.2.1)), ((qy (p := ⟨gb188, _, none⟩) NB187_188.out _).trans (hHeld.2.2.1)), ((qy (p := ⟨gb188, _, none⟩) NB187_188.out _).trans (hHeld.2.2.2.1)), ((qy (p := ⟨gb188, _, none⟩) NB187_188.out _).trans (hHeld.2.2.2.2.1)), ((qy (p := ⟨gb188, _, none⟩) NB187_188.out _).trans (hHeld.2.2.2.2.2))⟩ (fun hHeld => ?_)
    clear hK K
    refine done_ (done_of HT_.out (by kernel_rfl)) ?_
    have hcz39_0 : w36.cell? ⟨gb188, 0, none⟩ = some (.int .i64 a0_0) := (qb BK188.out 0).trans rfl
    have hcz39_1 : w36.cell? ⟨gb188, 1, none⟩ = some (.int .i64 0) := (qb BK188.out 1).trans rfl
    have hcz39_2 : w36.cell? ⟨gb188, 2, none⟩ = some (.int .i64 0) := (qb BK188.out 2).trans rfl
    have hcz39_3 : w36.cell? ⟨gb188, 3, none⟩ = some (.int .u32 a0_3) := (qb BK188.out 3).trans rfl
    have hcz39_4 : w36.cell? ⟨gb188, 4, none⟩ = some (.int .i64 0) := (qb BK188.out 4).trans rfl
    have hcz39_5 : w36.cell? ⟨gb188, 5, none⟩ = some (.int .i64 0) := (qb BK188.out 5).trans rfl
    have hfz39_0 := qa BK188.out 0
    have hfz39_1 := qa BK188.out 1
    have hfz39_2 := qa BK188.out 2
    have hfz39_3 := qa BK188.out 3
    have hfz39_4 := qa BK188.out 4
    have hfz39_5 := qa BK188.out 5
    have hcz40_0 : w36.cell? ⟨gb187, 0, none⟩ = some (.int .i64 a0_0) := (qb BK187.out 0).trans rfl
    have hcz40_1 : w36.cell? ⟨gb187, 1, none⟩ = some (.int .i64 a0_1) := (qb BK187.out 1).trans rfl
    have hcz40_2 : w36.cell? ⟨gb187, 2, none⟩ = some (.int .i64 a0_2) := (qb BK187.out 2).trans rfl
    have hcz40_3 : w36.cell? ⟨gb187, 3, none⟩ = some (.int .u32 a0_3) := (qb BK187.out 3).trans rfl
    have hcz40_4 : w36.cell? ⟨gb187, 4, none⟩ = some (.int .i64 a0_4) := (qb BK187.out 4).trans rfl
    have hcz40_5 : w36.cell? ⟨gb187, 5, none⟩ = some (.int .i64 a0_5) := (qb BK187.out 5).trans rfl
    have hfz40_0 := qa BK187.out 0
    have hfz40_1 := qa BK187.out 1
    have hfz40_2 := qa BK187.out 2
    have hfz40_3 := qa BK187.out 3
    have hfz40_4 := qa BK187.out 4
    have hfz40_5 := qa BK187.out 5
    try go_wp2
    go_ret
    exact ⟨by first | rfl | (simp [ql, qm] <;> rfl) | (simp [*, ql, qm] <;> rfl), by repeat (first | (with_reducible first | exact HB.out | apply qe | apply qc | apply qd | refine qh ?_ GE187.out | refine qh ?_ GE188.out) | exact HB.out)⟩
   ·rw [if_neg c28] at H
    have c28b0 : (a0_0 == 3) = false := beq_eq_false_iff_ne.mpr c28
    have c28b1 : (a0_0 != 3) = true := bne_iff_ne.mpr c28
    by_cases c41 : a0_0 = 4
    ·rw [if_pos c41] at H
     have c41b0 : (a0_0 == 4) = true := beq_iff_eq.mpr c41
     have c41b1 : (a0_0 != 4) = false := bne_eq_false_iff_eq.mpr c41
     clear c41
     obtain rfl := Option.some.inj H
     go_enter Try.func134, Try.ntmps134
     try go_wp2_with (first | ((with_reducible refine qB (N := 1) rfl ?_); refine qA ?hg (N := 1) ?hd (cs := #[.int .i64 a0_0, .int .i64 a0_1, .int .i64 a0_2, .int .u32 a0_3, .int .i64 a0_4, .int .i64 a0_5]) (t := 67) ?hr ?_; (case hd => rfl); (case hg => rfl); (case hr => first | (go_simp; done) | (go_simp; rfl)); intro gb187 hg w42 hbox hb; have n0_ := Aside0.mk (qq (by repeat (first | (with_reducible first | exact HB.out | apply qe | apply qc | apply qd) | exact HB.out)) hb); have n1_ := Aside0.mk (hbox); have n2_ := Aside0.mk ((by rw [hg]; exact (qr (by repeat (first | (with_reducible first | exact HB.out | apply qe | apply qc | apply qd) | exact HB.out))) : w.heap.size ≤ gb187)); have n3_ := Aside0.mk ((by rw [hg]; exact (qr (by repeat (first | (with_reducible first | exact HB.out | apply qe | apply qc | apply qd) | exact HB.out))) : w.heap.size ≤ gb187)); clear HB; have HB := n0_; have BK187 := n1_; have GW187 := n2_; have GE187 := n3_; clear n0_ n1_ n2_ n3_; clear hb hbox hg; have hcz43_0 : w42.cell? ⟨gb187, 0, none⟩ = some (.int .i64 a0_0) := (qb BK187.out 0).trans rfl; have hcz43_1 : w42.cell? ⟨gb187, 1, none⟩ = some (.int .i64 a0_1) := (qb BK187.out 1).trans rfl; have hcz43_2 : w42.cell? ⟨gb187, 2, none⟩ = some (.int .i64 a0_2) := (qb BK187.out 2).trans rfl; have hcz43_3 : w42.cell? ⟨gb187, 3, none⟩ = some (.int .u32 a0_3) := (qb BK187.out 3).trans rfl; have hcz43_4 : w42.cell? ⟨gb187, 4, none⟩ = some (.int .i64 a0_4) := (qb BK187.out 4).trans rfl; have hcz43_5 : w42.cell? ⟨gb187, 5, none⟩ = some (.int .i64 a0_5) := (qb BK187.out 5).trans rfl; have hfz43_0 := qa BK187.out 0; have hfz43_1 := qa BK187.out 1; have hfz43_2 := qa BK187.out 2; have hfz43_3 := qa BK187.out 3; have hfz43_4 := qa BK187.out 4; have hfz43_5 := qa BK187.out 5) | ((with_reducible refine qB (N := 3) rfl ?_); refine qA ?hg (N := 3) ?hd (cs := #[.int .i64 0, .int .i64 0, .int .i64 0, .int .u32 0, .int .i64 0, .int .i64 0]) (t := 67) ?hr ?_; (case hd => rfl); (case hg => rfl); (case hr => first | (go_simp; done) | (go_simp; rfl)); intro gb188 hg w44 hbox hb; have n0_ := Aside0.mk (qo (g := gb187) (o := .cells #[.int .i64 a0_0, .int .i64 a0_1, .int .i64 a0_2, .int .u32 a0_3, .int .i64 a0_4, .int .i64 a0_5] 67 (0, 0)) (by (with_reducible repeat (first | refine qg ?_ _ | refine qi ?_ | refine qf ?_ _)); exact BK187.out) hb); have n1_ := Aside0.mk (qq (by repeat (first | (with_reducible first | exact HB.out | apply qe | apply qc | apply qd | refine qh ?_ GE187.out) | exact HB.out)) hb); have n2_ := Aside0.mk (hbox); have n3_ := Aside0.mk ((by rw [hg]; exact (qr (by repeat (first | (with_reducible first | exact HB.out | apply qe | apply qc | apply qd | refine qh ?_ GE187.out) | exact HB.out))) : w.heap.size ≤ gb188)); have n4_ := Aside0.mk ((by rw [hg]; exact (qr (by repeat (first | (with_reducible first | exact HB.out | apply qe | apply qc | apply qd | refine qh ?_ GE187.out) | exact HB.out))) : w.heap.size ≤ gb188)); have n5_ := Aside0.mk ((by rw [hg]; exact nne9 (qG (g := gb187) (o := .cells #[.int .i64 a0_0, .int .i64 a0_1, .int .i64 a0_2, .int .u32 a0_3, .int .i64 a0_4, .int .i64 a0_5] 67 (0, 0)) (by (with_reducible repeat (first | refine qg ?_ _ | refine qi ?_ | refine qf ?_ _)); exact BK187.out)) : gb187 ≠ gb188)); have n6_ := Aside0.mk ((by rw [hg]; exact Nat.ne_of_gt (qG (g := gb187) (o := .cells #[.int .i64 a0_0, .int .i64 a0_1, .int .i64 a0_2, .int .u32 a0_3, .int .i64 a0_4, .int .i64 a0_5] 67 (0, 0)) (by (with_reducible repeat (first | refine qg ?_ _ | refine qi ?_ | refine qf ?_ _)); exact BK187.out)) : gb188 ≠ gb187)); clear BK187; clear HB; have BK187 := n0_; have HB := n1_; have BK188 := n2_; have GW188 := n3_; have GE188 := n4_; have NB187_188 := n5_; have NB188_187 := n6_; clear n0_ n1_ n2_ n3_ n4_ n5_ n6_; clear hb hbox hg; have hnb45 := NB188_187.out; have hnc45 := NB187_188.out; have hcz46_0 : w44.cell? ⟨gb188, 0, none⟩ = some (.int .i64 0) := (qb BK188.out 0).trans rfl; have hcz46_1 : w44.cell? ⟨gb188, 1, none⟩ = some (.int .i64 0) := (qb BK188.out 1).trans rfl; have hcz46_2 : w44.cell? ⟨gb188, 2, none⟩ = some (.int .i64 0) := (qb BK188.out 2).trans rfl; have hcz46_3 : w44.cell? ⟨gb188, 3, none⟩ = some (.int .u32 0) := (qb BK188.out 3).trans rfl; have hcz46_4 : w44.cell? ⟨gb188, 4, none⟩ = some (.int .i64 0) := (qb BK188.out 4).trans rfl; have hcz46_5 : w44.cell? ⟨gb188, 5, none⟩ = some (.int .i64 0) := (qb BK188.out 5).trans rfl; have hfz46_0 := qa BK188.out 0; have hfz46_1 := qa BK188.out 1; have hfz46_2 := qa BK188.out 2; have hfz46_3 := qa BK188.out 3; have hfz46_4 := qa BK188.out 4; have hfz46_5 := qa BK188.out 5; have hcz47_0 : w44.cell? ⟨gb187, 0, none⟩ = some (.int .i64 a0_0) := (qb BK187.out 0).trans rfl; have hcz47_1 : w44.cell? ⟨gb187, 1, none⟩ = some (.int .i64 a0_1) := (qb BK187.out 1).trans rfl; have hcz47_2 : w44.cell? ⟨gb187, 2, none⟩ = some (.int .i64 a0_2) := (qb BK187.out 2).trans rfl; have hcz47_3 : w44.cell? ⟨gb187, 3, none⟩ = some (.int .u32 a0_3) := (qb BK187.out 3).trans rfl; have hcz47_4 : w44.cell? ⟨gb187, 4, none⟩ = some (.int .i64 a0_4) := (qb BK187.out 4).trans rfl; have hcz47_5 : w44.cell? ⟨gb187, 5, none⟩ = some (.int .i64 a0_5) := (qb BK187.out 5).trans rfl; have hfz47_0 := qa BK187.out 0; have hfz47_1 := qa BK187.out 1; have hfz47_2 := qa BK187.out 2; have hfz47_3 := qa BK187.out 3; have hfz47_4 := qa BK187.out 4; have hfz47_5 := qa BK187.out 5))
     have n0_ : Aside0 (((((((w44.setCell ⟨gb188, 0, none⟩ (.int .i64 a0_0)).setCell ⟨gb188, 1, none⟩ (.int .i64 0)).setCell ⟨gb188, 2, none⟩ (.int .i64 0)).setCell ⟨gb188, 3, none⟩ (.int .u32 a0_3)).setCell ⟨gb188, 4, none⟩ (.int .i64 0)).setCell ⟨gb188, 5, none⟩ (.int .i64 0)).heap[gb187]? = some (.cells #[.int .i64 a0_0, .int .i64 a0_1, .int .i64 a0_2, .int .u32 a0_3, .int .i64 a0_4, .int .i64 a0_5] 67 (0, 0))) := ⟨by (with_reducible repeat (first | refine qg ?_ _ | refine qi ?_ | refine qf ?_ _)); refine qp ?_ NB187_188.out _; (with_reducible repeat (first | refine qg ?_ _ | refine qi ?_ | refine qf ?_ _)); refine qp ?_ NB187_188.out _; (with_reducible repeat (first | refine qg ?_ _ | refine qi ?_ | refine qf ?_ _)); refine qp ?_ NB187_188.out _; (with_reducible repeat (first | refine qg ?_ _ | refine qi ?_ | refine qf ?_ _)); refine qp ?_ NB187_188.out _; (with_reducible repeat (first | refine qg ?_ _ | refine qi ?_ | refine qf ?_ _)); refine qp ?_ NB187_188.out _; (with_reducible repeat (first | refine qg ?_ _ | refine qi ?_ | refine qf ?_ _)); refine qp ?_ NB187_188.out _; (with_reducible repeat (first | refine qg ?_ _ | refine qi ?_ | refine qf ?_ _)); exact BK187.out⟩
     have n1_ : Aside0 (((((((w44.setCell ⟨gb188, 0, none⟩ (.int .i64 a0_0)).setCell ⟨gb188, 1, none⟩ (.int .i64 0)).setCell ⟨gb188, 2, none⟩ (.int .i64 0)).setCell ⟨gb188, 3, none⟩ (.int .u32 a0_3)).setCell ⟨gb188, 4, none⟩ (.int .i64 0)).setCell ⟨gb188, 5, none⟩ (.int .i64 0)).heap[gb188]? = some (.cells #[.int .i64 a0_0, .int .i64 0, .int .i64 0, .int .u32 a0_3, .int .i64 0, .int .i64 0] 67 (0, 0))) := ⟨by (with_reducible repeat (first | refine qg ?_ _ | refine qi ?_ | refine qf ?_ _)); refine qt (cs := #[.int .i64 a0_0, .int .i64 0, .int .i64 0, .int .u32 a0_3, .int .i64 0, .int .i64 0]) ?_ 5 _ rfl; (with_reducible repeat (first | refine qg ?_ _ | refine qi ?_ | refine qf ?_ _)); refine qt (cs := #[.int .i64 a0_0, .int .i64 0, .int .i64 0, .int .u32 a0_3, .int .i64 0, .int .i64 0]) ?_ 4 _ rfl; (with_reducible repeat (first | refine qg ?_ _ | refine qi ?_ | refine qf ?_ _)); refine qt (cs := #[.int .i64 a0_0, .int .i64 0, .int .i64 0, .int .u32 0, .int .i64 0, .int .i64 0]) ?_ 3 _ rfl; (with_reducible repeat (first | refine qg ?_ _ | refine qi ?_ | refine qf ?_ _)); refine qt (cs := #[.int .i64 a0_0, .int .i64 0, .int .i64 0, .int .u32 0, .int .i64 0, .int .i64 0]) ?_ 2 _ rfl; (with_reducible repeat (first | refine qg ?_ _ | refine qi ?_ | refine qf ?_ _)); refine qt (cs := #[.int .i64 a0_0, .int .i64 0, .int .i64 0, .int .u32 0, .int .i64 0, .int .i64 0]) ?_ 1 _ rfl; (with_reducible repeat (first | refine qg ?_ _ | refine qi ?_ | refine qf ?_ _)); refine qt (cs := #[.int .i64 0, .int .i64 0, .int .i64 0, .int .u32 0, .int .i64 0, .int .i64 0]) ?_ 0 _ rfl; (with_reducible repeat (first | refine qg ?_ _ | refine qi ?_ | refine qf ?_ _)); exact BK188.out⟩
     have n2_ : Aside0 (Below w.heap.size w ((((((w44.setCell ⟨gb188, 0, none⟩ (.int .i64 a0_0)).setCell ⟨gb188, 1, none⟩ (.int .i64 0)).setCell ⟨gb188, 2, none⟩ (.int .i64 0)).setCell ⟨gb188, 3, none⟩ (.int .u32 a0_3)).setCell ⟨gb188, 4, none⟩ (.int .i64 0)).setCell ⟨gb188, 5, none⟩ (.int .i64 0))) := ⟨by repeat (first | (with_reducible first | exact HB.out | apply qe | apply qc | apply qd | refine qh ?_ GE187.out | refine qh ?_ GE188.out) | exact HB.out)⟩
     (try clear BK187)
     (try clear BK188)
     (try clear HB)
     generalize ((((((w44.setCell ⟨gb188, 0, none⟩ (.int .i64 a0_0)).setCell ⟨gb188, 1, none⟩ (.int .i64 0)).setCell ⟨gb188, 2, none⟩ (.int .i64 0)).setCell ⟨gb188, 3, none⟩ (.int .u32 a0_3)).setCell ⟨gb188, 4, none⟩ (.int .i64 0)).setCell ⟨gb188, 5, none⟩ (.int .i64 0)) = w48 at n0_ n1_ n2_ ⊢
     have BK187 := n0_
     have BK188 := n1_
     have HB := n2_
     clear n0_ n1_ n2_
     have n0_ := Aside0.mk (qi BK187.out)
     have n1_ := Aside0.mk (qi BK188.out)
     have n2_ := Aside0.mk (qd HB.out)
     clear BK187
     clear BK188
     clear HB
     have BK187 := n0_
     have BK188 := n1_
     have HB := n2_
     clear n0_ n1_ n2_
     refine start_ (n := 8) (S := fun w' => w'.cell? ⟨gb187, 0, none⟩ = some (.int .i64 a0_0) ∧ w'.cell? ⟨gb187, 1, none⟩ = some (.int .i64 a0_1) ∧ w'.cell? ⟨gb187, 2, none⟩ = some (.int .i64 a0_2) ∧ w'.cell? ⟨gb187, 3, none⟩ = some (.int .u32 a0_3) ∧ w'.cell? ⟨gb187, 4, none⟩ = some (.int .i64 a0_4) ∧ w'.cell? ⟨gb187, 5, none⟩ = some (.int .i64 a0_5)) (ds := []) #[false, false, false, false, false, false, false, false] (by kernel_rfl) rfl rfl ⟨(qb BK187.out 0).trans rfl, (qb BK187.out 1).trans rfl, (qb BK187.out 2).trans rfl, (qb BK187.out 3).trans rfl, (qb BK187.out 4).trans rfl, (qb BK187.out 5).trans rfl⟩ (fun hHeld => ?_); refine with_tabW ir_named.tab10 ir_named.bits10 (fun HT_ HW_ => ?_)
     generalize w48.drew = w49 at BK187 BK188 HB hHeld ⊢
     refine pure_ (i := 0) (N := some 31) (v := ?_) (a' := ?_) #[true, false, false, false, false, false, false, false] rfl rfl (any_of HT_.out (by kernel_rfl)) (fun _ _ _ h => h) (Or.inl ⟨by rfl, ?_⟩) ?_ ?_
     rotate_left
     ·intro w'
      go_simp
      with_reducible rfl
     rotate_left
     ·simp only [Act.put, List.setIfInBounds_toArray, List.set_cons_zero, List.set_cons_succ, i64_w, i32_w]
      rfl
     refine pure_ (i := 2) (N := some 33) (v := ?_) (a' := ?_) #[true, false, true, false, false, false, false, false] rfl rfl (any_of HT_.out (by kernel_rfl)) (fun _ _ _ h => h) (Or.inl ⟨by rfl, ?_⟩) ?_ ?_
     rotate_left
     ·intro w'
      go_simp
      with_reducible rfl
     rotate_left
     ·simp only [Act.put, List.setIfInBounds_toArray, List.set_cons_zero, List.set_cons_succ, i64_w, i32_w]
      rfl
     refine take_ (i := 1) (N := some 32) (v := ?_) (a' := ?_) #[true, true, true, false, false, false, false, false] rfl rfl (take_ofW HT_.out HW_.out (by kernel_rfl)) (fun _ _ _ h => h) (Or.inl ⟨by rfl, ?_⟩) hHeld ?_ ?_
     rotate_left
     ·rintro w' ⟨s0, s1, s2, s3, s4, s5⟩
      go_simp
      with_reducible rfl
     rotate_left
     ·simp only [Act.put, List.setIfInBounds_toArray, List.set_cons_zero, List.set_cons_succ, i64_w, i32_w]
      rfl
     refine pure_ (i := 4) (N := some 35) (v := ?_) (a' := ?_) #[true, true, true, false, true, false, false, false] rfl rfl (any_of HT_.out (by kernel_rfl)) (fun _ _ _ h => h) (Or.inl ⟨by rfl, ?_⟩) ?_ ?_
     rotate_left
     ·intro w'
      go_simp
      with_reducible rfl
     rotate_left
     ·simp only [Act.put, List.setIfInBounds_toArray, List.set_cons_zero, List.set_cons_succ, i64_w, i32_w]
      rfl
     refine take_ (i := 3) (N := some 34) (v := ?_) (a' := ?_) #[true, true, true, true, true, false, false, false] rfl rfl (take_ofW HT_.out HW_.out (by kernel_rfl)) (fun _ _ _ h => h) (Or.inl ⟨by rfl, ?_⟩) hHeld ?_ ?_
     rotate_left
     ·rintro w' ⟨s0, s1, s2, s3, s4, s5⟩
      go_simp
      with_reducible rfl
     rotate_left
     ·simp only [Act.put, List.setIfInBounds_toArray, List.set_cons_zero, List.set_cons_succ, i64_w, i32_w]
      rfl
     refine one_ (i := 5) (N := none) #[true, true, true, true, true, true, false, false] rfl rfl (one_of HT_.out (by kernel_rfl)) (by decide) (fun K hK => ?_)
     have hs50 : w49.cell? ⟨gb188, 1, none⟩ = some (.int .i64 0) := (qb BK188.out 1).trans rfl
     have hfs50 := qa BK188.out 1
     have hns50_0 := NB187_188.out
     have hms50_0 := NB188_187.out
     refine skip_ (w1 := ?_) (by rfl) rfl ?_ ?_
     rotate_left
     ·go_simp
      rfl
     refine hK.out _ _ ⟨((qy (p := ⟨gb188, _, none⟩) NB187_188.out _).trans (hHeld.1)), ((qy (p := ⟨gb188, _, none⟩) NB187_188.out _).trans (hHeld.2.1)), ((qy (p := ⟨gb188, _, none⟩) NB187_188.out _).trans (hHeld.2.2.1)), ((qy (p := ⟨gb188, _, none⟩) NB187_188.out _).trans (hHeld.2.2.2.1)), ((qy (p := ⟨gb188, _, none⟩) NB187_188.out _).trans (hHeld.2.2.2.2.1)), ((qy (p := ⟨gb188, _, none⟩) NB187_188.out _).trans (hHeld.2.2.2.2.2))⟩ (fun hHeld => ?_)
     clear hK K
     refine pure_ (i := 6) (N := some 36) (v := ?_) (a' := ?_) #[true, true, true, true, true, true, true, false] rfl rfl (any_of HT_.out (by kernel_rfl)) (fun _ _ _ h => h) (Or.inl ⟨by rfl, ?_⟩) ?_ ?_
     rotate_left
     ·intro w'
      go_simp
      with_reducible rfl
     rotate_left
     ·simp only [Act.put, List.setIfInBounds_toArray, List.set_cons_zero, List.set_cons_succ, i64_w, i32_w]
      rfl
     refine one_ (i := 7) (N := none) #[true, true, true, true, true, true, true, true] rfl rfl (one_of HT_.out (by kernel_rfl)) (by decide) (fun K hK => ?_)
     have hs51 : w49.cell? ⟨gb188, 4, none⟩ = some (.int .i64 0) := (qb BK188.out 4).trans rfl
     have hfs51 := qa BK188.out 4
     have hns51_0 := NB187_188.out
     have hms51_0 := NB188_187.out
     refine skip_ (w1 := ?_) (by rfl) rfl ?_ ?_
     rotate_left
     ·go_simp
      rfl
     refine hK.out _ _ ⟨((qy (p := ⟨gb188, _, none⟩) NB187_188.out _).trans (hHeld.1)), ((qy (p := ⟨gb188, _, none⟩) NB187_188.out _).trans (hHeld.2.1)), ((qy (p := ⟨gb188, _, none⟩) NB187_188.out _).trans (hHeld.2.2.1)), ((qy (p := ⟨gb188, _, none⟩) NB187_188.out _).trans (hHeld.2.2.2.1)), ((qy (p := ⟨gb188, _, none⟩) NB187_188.out _).trans (hHeld.2.2.2.2.1)), ((qy (p := ⟨gb188, _, none⟩) NB187_188.out _).trans (hHeld.2.2.2.2.2))⟩ (fun hHeld => ?_)
     clear hK K
     refine done_ (done_of HT_.out (by kernel_rfl)) ?_
     have hcz52_0 : w49.cell? ⟨gb188, 0, none⟩ = some (.int .i64 a0_0) := (qb BK188.out 0).trans rfl
     have hcz52_1 : w49.cell? ⟨gb188, 1, none⟩ = some (.int .i64 0) := (qb BK188.out 1).trans rfl
     have hcz52_2 : w49.cell? ⟨gb188, 2, none⟩ = some (.int .i64 0) := (qb BK188.out 2).trans rfl
     have hcz52_3 : w49.cell? ⟨gb188, 3, none⟩ = some (.int .u32 a0_3) := (qb BK188.out 3).trans rfl
     have hcz52_4 : w49.cell? ⟨gb188, 4, none⟩ = some (.int .i64 0) := (qb BK188.out 4).trans rfl
     have hcz52_5 : w49.cell? ⟨gb188, 5, none⟩ = some (.int .i64 0) := (qb BK188.out 5).trans rfl
     have hfz52_0 := qa BK188.out 0
     have hfz52_1 := qa BK188.out 1
     have hfz52_2 := qa BK188.out 2
     have hfz52_3 := qa BK188.out 3
     have hfz52_4 := qa BK188.out 4
     have hfz52_5 := qa BK188.out 5
     have hcz53_0 : w49.cell? ⟨gb187, 0, none⟩ = some (.int .i64 a0_0) := (qb BK187.out 0).trans rfl
     have hcz53_1 : w49.cell? ⟨gb187, 1, none⟩ = some (.int .i64 a0_1) := (qb BK187.out 1).trans rfl
     have hcz53_2 : w49.cell? ⟨gb187, 2, none⟩ = some (.int .i64 a0_2) := (qb BK187.out 2).trans rfl
     have hcz53_3 : w49.cell? ⟨gb187, 3, none⟩ = some (.int .u32 a0_3) := (qb BK187.out 3).trans rfl
     have hcz53_4 : w49.cell? ⟨gb187, 4, none⟩ = some (.int .i64 a0_4) := (qb BK187.out 4).trans rfl
     have hcz53_5 : w49.cell? ⟨gb187, 5, none⟩ = some (.int .i64 a0_5) := (qb BK187.out 5).trans rfl
     have hfz53_0 := qa BK187.out 0
     have hfz53_1 := qa BK187.out 1
     have hfz53_2 := qa BK187.out 2
     have hfz53_3 := qa BK187.out 3
     have hfz53_4 := qa BK187.out 4
     have hfz53_5 := qa BK187.out 5
     try go_wp2
     go_ret
     exact ⟨by first | rfl | (simp [ql, qm] <;> rfl) | (simp [*, ql, qm] <;> rfl), by repeat (first | (with_reducible first | exact HB.out | apply qe | apply qc | apply qd | refine qh ?_ GE187.out | refine qh ?_ GE188.out) | exact HB.out)⟩
    ·rw [if_neg c41] at H
     have c41b0 : (a0_0 == 4) = false := beq_eq_false_iff_ne.mpr c41
     have c41b1 : (a0_0 != 4) = true := bne_iff_ne.mpr c41
     obtain rfl := Option.some.inj H
     go_enter Try.func134, Try.ntmps134
     go_wp2_with (first | ((with_reducible refine qB (N := 1) rfl ?_); refine qA ?hg (N := 1) ?hd (cs := #[.int .i64 a0_0, .int .i64 a0_1, .int .i64 a0_2, .int .u32 a0_3, .int .i64 a0_4, .int .i64 a0_5]) (t := 67) ?hr ?_; (case hd => rfl); (case hg => rfl); (case hr => first | (go_simp; done) | (go_simp; rfl)); intro gb187 hg w54 hbox hb; have n0_ := Aside0.mk (qq (by repeat (first | (with_reducible first | exact HB.out | apply qe | apply qc | apply qd) | exact HB.out)) hb); have n1_ := Aside0.mk (hbox); have n2_ := Aside0.mk ((by rw [hg]; exact (qr (by repeat (first | (with_reducible first | exact HB.out | apply qe | apply qc | apply qd) | exact HB.out))) : w.heap.size ≤ gb187)); have n3_ := Aside0.mk ((by rw [hg]; exact (qr (by repeat (first | (with_reducible first | exact HB.out | apply qe | apply qc | apply qd) | exact HB.out))) : w.heap.size ≤ gb187)); clear HB; have HB := n0_; have BK187 := n1_; have GW187 := n2_; have GE187 := n3_; clear n0_ n1_ n2_ n3_; clear hb hbox hg; have hcz55_0 : w54.cell? ⟨gb187, 0, none⟩ = some (.int .i64 a0_0) := (qb BK187.out 0).trans rfl; have hcz55_1 : w54.cell? ⟨gb187, 1, none⟩ = some (.int .i64 a0_1) := (qb BK187.out 1).trans rfl; have hcz55_2 : w54.cell? ⟨gb187, 2, none⟩ = some (.int .i64 a0_2) := (qb BK187.out 2).trans rfl; have hcz55_3 : w54.cell? ⟨gb187, 3, none⟩ = some (.int .u32 a0_3) := (qb BK187.out 3).trans rfl; have hcz55_4 : w54.cell? ⟨gb187, 4, none⟩ = some (.int .i64 a0_4) := (qb BK187.out 4).trans rfl; have hcz55_5 : w54.cell? ⟨gb187, 5, none⟩ = some (.int .i64 a0_5) := (qb BK187.out 5).trans rfl; have hfz55_0 := qa BK187.out 0; have hfz55_1 := qa BK187.out 1; have hfz55_2 := qa BK187.out 2; have hfz55_3 := qa BK187.out 3; have hfz55_4 := qa BK187.out 4; have hfz55_5 := qa BK187.out 5) | ((with_reducible refine qB (N := 3) rfl ?_); refine qA ?hg (N := 3) ?hd (cs := #[.int .i64 0, .int .i64 0, .int .i64 0, .int .u32 0, .int .i64 0, .int .i64 0]) (t := 67) ?hr ?_; (case hd => rfl); (case hg => rfl); (case hr => first | (go_simp; done) | (go_simp; rfl)); intro gb188 hg w56 hbox hb; have n0_ := Aside0.mk (qo (g := gb187) (o := .cells #[.int .i64 a0_0, .int .i64 a0_1, .int .i64 a0_2, .int .u32 a0_3, .int .i64 a0_4, .int .i64 a0_5] 67 (0, 0)) (by (with_reducible repeat (first | refine qg ?_ _ | refine qi ?_ | refine qf ?_ _)); exact BK187.out) hb); have n1_ := Aside0.mk (qq (by repeat (first | (with_reducible first | exact HB.out | apply qe | apply qc | apply qd | refine qh ?_ GE187.out) | exact HB.out)) hb); have n2_ := Aside0.mk (hbox); have n3_ := Aside0.mk ((by rw [hg]; exact (qr (by repeat (first | (with_reducible first | exact HB.out | apply qe | apply qc | apply qd | refine qh ?_ GE187.out) | exact HB.out))) : w.heap.size ≤ gb188)); have n4_ := Aside0.mk ((by rw [hg]; exact (qr (by repeat (first | (with_reducible first | exact HB.out | apply qe | apply qc | apply qd | refine qh ?_ GE187.out) | exact HB.out))) : w.heap.size ≤ gb188)); have n5_ := Aside0.mk ((by rw [hg]; exact nne9 (qG (g := gb187) (o := .cells #[.int .i64 a0_0, .int .i64 a0_1, .int .i64 a0_2, .int .u32 a0_3, .int .i64 a0_4, .int .i64 a0_5] 67 (0, 0)) (by (with_reducible repeat (first | refine qg ?_ _ | refine qi ?_ | refine qf ?_ _)); exact BK187.out)) : gb187 ≠ gb188)); have n6_ := Aside0.mk ((by rw [hg]; exact Nat.ne_of_gt (qG (g := gb187) (o := .cells #[.int .i64 a0_0, .int .i64 a0_1, .int .i64 a0_2, .int .u32 a0_3, .int .i64 a0_4, .int .i64 a0_5] 67 (0, 0)) (by (with_reducible repeat (first | refine qg ?_ _ | refine qi ?_ | refine qf ?_ _)); exact BK187.out)) : gb188 ≠ gb187)); clear BK187; clear HB; have BK187 := n0_; have HB := n1_; have BK188 := n2_; have GW188 := n3_; have GE188 := n4_; have NB187_188 := n5_; have NB188_187 := n6_; clear n0_ n1_ n2_ n3_ n4_ n5_ n6_; clear hb hbox hg; have hnb57 := NB188_187.out; have hnc57 := NB187_188.out; have hcz58_0 : w56.cell? ⟨gb188, 0, none⟩ = some (.int .i64 0) := (qb BK188.out 0).trans rfl; have hcz58_1 : w56.cell? ⟨gb188, 1, none⟩ = some (.int .i64 0) := (qb BK188.out 1).trans rfl; have hcz58_2 : w56.cell? ⟨gb188, 2, none⟩ = some (.int .i64 0) := (qb BK188.out 2).trans rfl; have hcz58_3 : w56.cell? ⟨gb188, 3, none⟩ = some (.int .u32 0) := (qb BK188.out 3).trans rfl; have hcz58_4 : w56.cell? ⟨gb188, 4, none⟩ = some (.int .i64 0) := (qb BK188.out 4).trans rfl; have hcz58_5 : w56.cell? ⟨gb188, 5, none⟩ = some (.int .i64 0) := (qb BK188.out 5).trans rfl; have hfz58_0 := qa BK188.out 0; have hfz58_1 := qa BK188.out 1; have hfz58_2 := qa BK188.out 2; have hfz58_3 := qa BK188.out 3; have hfz58_4 := qa BK188.out 4; have hfz58_5 := qa BK188.out 5; have hcz59_0 : w56.cell? ⟨gb187, 0, none⟩ = some (.int .i64 a0_0) := (qb BK187.out 0).trans rfl; have hcz59_1 : w56.cell? ⟨gb187, 1, none⟩ = some (.int .i64 a0_1) := (qb BK187.out 1).trans rfl; have hcz59_2 : w56.cell? ⟨gb187, 2, none⟩ = some (.int .i64 a0_2) := (qb BK187.out 2).trans rfl; have hcz59_3 : w56.cell? ⟨gb187, 3, none⟩ = some (.int .u32 a0_3) := (qb BK187.out 3).trans rfl; have hcz59_4 : w56.cell? ⟨gb187, 4, none⟩ = some (.int .i64 a0_4) := (qb BK187.out 4).trans rfl; have hcz59_5 : w56.cell? ⟨gb187, 5, none⟩ = some (.int .i64 a0_5) := (qb BK187.out 5).trans rfl; have hfz59_0 := qa BK187.out 0; have hfz59_1 := qa BK187.out 1; have hfz59_2 := qa BK187.out 2; have hfz59_3 := qa BK187.out 3; have hfz59_4 := qa BK187.out 4; have hfz59_5 := qa BK187.out 5))
     go_ret
     exact ⟨by first | rfl | (simp [ql, qm] <;> rfl) | (simp [*, ql, qm] <;> rfl), by repeat (first | (with_reducible first | exact HB.out | apply qe | apply qc | apply qd | refine qh ?_ GE187.out | refine qh ?_ GE188.out) | exact HB.out)⟩

-- NOT PRINTED: function 114 (ir_judge_op)

-- NOT PRINTED: function 115 (ir_judge_leaves)

-- NOT PRINTED: function 136 (slices_IndexFunc_uint32_uint32)

-- NOT PRINTED: function 117 (slices_ContainsFunc_uint32_uint32)

-- NOT PRINTED: function 87 (ir_judge_right)

-- NOT PRINTED: function 50 (ir_Check)

-- NOT PRINTED: function 75 (slices_Clone_uint32_uint32)

-- NOT PRINTED: function 100 (ir_Op)

-- NOT PRINTED: function 101 (ir_Exit)

-- NOT PRINTED: function 102 (ir_Val_102)

-- NOT PRINTED: function 71 (ir_Clone)

end Go.Proofs.Ythjgakoofmmloaa.PNumberDoes
