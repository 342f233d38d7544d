/- Contract of the reference's Write of layer 16, register by register. Conditions: numbers are of their kinds. -/
import Derived.Test.YtnooikjkjcflbabDoorCx
import Derived.Test.YtnooikjkjcflbabDoorMg
namespace Go.Proofs.YtnooikjkjcflbabDoor
open Go.RowKit
set_option linter.unusedVariables false
set_option linter.unusedSimpArgs false

theorem put_same (hi : Bool) (n x t : Int) (hn : 0 ≤ n ∧ n ≤ 18446744073709551615) (hx : 0 ≤ x ∧ x ≤ 4294967295) :
    IntKind.u64.wrap (putV hi n x - IntKind.u64.wrap (t + 1)) = IntKind.u64.wrap (IntKind.u64.wrap (putV hi n x - t) - 1) := by
  simp only [show ∀ m, IntKind.u64.wrap m = m % 18446744073709551616 from fun _ => rfl]
  omega
set_option maxHeartbeats 16000000 in
set_option maxRecDepth 100000 in
theorem rwr_0 (x f0 f1 f2 f3 f4 f5 f6 c i t r ti ca : Int) (hx : 0 ≤ x ∧ x ≤ 4294967295) (w : World) :
    Calls Tryd.prog 32 #[.agg #[.int .u32 f0, .int .u32 f1, .int .u32 f2, .int .u32 f3, .int .u32 f4, .int .u32 f5, .int .u32 f6, .int .u64 c, .int .u64 i], .int .i64 768, .int .u32 x, .agg #[.int .u64 t, .int .u64 r, .int .u64 ti, .int .u32 ca]] w fun e w' =>
      e = .returned (fileV (legV 0 x) f1 f2 f3 f4 f5 f6 c i) ∧ Below w.heap.size w w' := by
  have HL := Lib.hid (fun v => rlegal_c 768 x 0 (by decide) (first_at 0 (by decide)) v)
  generalize hy : legV 0 x = y at *
  clear hy
  have e4 : IntKind.u64.wrap x = x := cu64w _ (by omega) (by omega)
  clear hx
  have hbw := bal (bal (bal (Below.refl w.heap.size w) (.cells #[.int .u32 f0, .int .u32 f1, .int .u32 f2, .int .u32 f3, .int .u32 f4, .int .u32 f5, .int .u32 f6, .int .u64 c, .int .u64 i] 54)) (.cells #[.int .u64 t, .int .u64 r, .int .u64 ti, .int .u32 ca] 57)) (.cells #[.int .u32 0, .int .u32 0, .int .u32 0, .int .u32 0, .int .u32 0, .int .u32 0, .int .u32 0, .int .u64 0, .int .u64 0] 54)
  have HBW := Lib.hid hbw
  clear hbw
  go_enter Tryd.func32, Tryd.ntmps32
  go_wp2_with fail
  refine (HL.out _).mono ?_
  rintro e w1 ⟨rfl, hb1⟩
  obtain ⟨hc1, hf1⟩ := bcf hb1
  have HBE := Lib.hid (bthen HBW.out hb1)
  have hz1 := hb1.size
  simp only [World.size_alloc] at hz1
  have l0 : w.heap.size < w1.heap.size := by omega
  have l1 : w.heap.size + 1 < w1.heap.size := by omega
  have l2 : w.heap.size + 2 < w1.heap.size := by omega
  have p0 : ¬ w.heap.size = w1.heap.size := by omega
  have p1 : ¬ w.heap.size + 1 = w1.heap.size := by omega
  have p2 : ¬ w.heap.size + 2 = w1.heap.size := by omega
  have G := fun (j : Nat) (v : Value) (h : (#[Value.int .u32 f0, .int .u32 f1, .int .u32 f2, .int .u32 f3, .int .u32 f4, .int .u32 f5, .int .u32 f6, .int .u64 c, .int .u64 i] : Array Value)[j]? = some v) => (hc1 w.heap.size j (by simp; omega)).trans (show _ = some v by simp [go_sem, h])
  have R := fun (j : Nat) (v : Value) (h : (#[Value.int .u32 0, .int .u32 0, .int .u32 0, .int .u32 0, .int .u32 0, .int .u32 0, .int .u32 0, .int .u64 0, .int .u64 0] : Array Value)[j]? = some v) => (hc1 (w.heap.size + 2) j (by simp)).trans (show _ = some v by simp [go_sem, h])
  have V := fun (j : Nat) (v : Value) (h : (#[Value.int .u64 t, .int .u64 r, .int .u64 ti, .int .u32 ca] : Array Value)[j]? = some v) => (hc1 (w.heap.size + 1) j (by simp)).trans (show _ = some v by simp [go_sem, h])
  have g0 := G 0 _ rfl
  have r0 := R 0 _ rfl
  have g1 := G 1 _ rfl
  have r1 := R 1 _ rfl
  have g2 := G 2 _ rfl
  have r2 := R 2 _ rfl
  have g3 := G 3 _ rfl
  have r3 := R 3 _ rfl
  have g4 := G 4 _ rfl
  have r4 := R 4 _ rfl
  have g5 := G 5 _ rfl
  have r5 := R 5 _ rfl
  have g6 := G 6 _ rfl
  have r6 := R 6 _ rfl
  have g7 := G 7 _ rfl
  have r7 := R 7 _ rfl
  have g8 := G 8 _ rfl
  have r8 := R 8 _ rfl
  have zg : ∀ j, w1.frozen? ⟨w.heap.size, j, none⟩ = false := fun j => (hf1 w.heap.size j (by simp; omega)).trans (by simp [go_sem])
  have zr : ∀ j, w1.frozen? ⟨w.heap.size + 2, j, none⟩ = false := fun j => (hf1 (w.heap.size + 2) j (by simp)).trans (by simp [go_sem])
  have v0 := V 0 _ rfl
  have v1 := V 1 _ rfl
  clear hc1 hf1 G R V hb1 hz1
  go_wp2
  refine bodyPost_ret (v := fileV y f1 f2 f3 f4 f5 f6 c i) (by simp [results, Tryd.results32, go_sem, fileV, *]) rfl ⟨rfl, ?_⟩
  repeat (first | (with_reducible exact HBE.out) | (with_reducible refine bal ?_ _) | (with_reducible refine bset ?_ ?_ _; rotate_left; (simp <;> omega)) | (with_reducible refine Below.drew ?_) | (with_reducible refine bdn ?_ _))
set_option maxHeartbeats 16000000 in
set_option maxRecDepth 100000 in
theorem rwr_1 (x f0 f1 f2 f3 f4 f5 f6 c i t r ti ca : Int) (hx : 0 ≤ x ∧ x ≤ 4294967295) (w : World) :
    Calls Tryd.prog 32 #[.agg #[.int .u32 f0, .int .u32 f1, .int .u32 f2, .int .u32 f3, .int .u32 f4, .int .u32 f5, .int .u32 f6, .int .u64 c, .int .u64 i], .int .i64 769, .int .u32 x, .agg #[.int .u64 t, .int .u64 r, .int .u64 ti, .int .u32 ca]] w fun e w' =>
      e = .returned (fileV f0 f1 f2 f3 f4 f5 f6 c i) ∧ Below w.heap.size w w' := by
  have HL := Lib.hid (fun v => rlegal_c 769 x 1 (by decide) (first_at 1 (by decide)) v)
  generalize hy : legV 1 x = y at *
  clear hy
  have e4 : IntKind.u64.wrap x = x := cu64w _ (by omega) (by omega)
  clear hx
  have hbw := bal (bal (bal (Below.refl w.heap.size w) (.cells #[.int .u32 f0, .int .u32 f1, .int .u32 f2, .int .u32 f3, .int .u32 f4, .int .u32 f5, .int .u32 f6, .int .u64 c, .int .u64 i] 54)) (.cells #[.int .u64 t, .int .u64 r, .int .u64 ti, .int .u32 ca] 57)) (.cells #[.int .u32 0, .int .u32 0, .int .u32 0, .int .u32 0, .int .u32 0, .int .u32 0, .int .u32 0, .int .u64 0, .int .u64 0] 54)
  have HBW := Lib.hid hbw
  clear hbw
  go_enter Tryd.func32, Tryd.ntmps32
  go_wp2_with fail
  refine (HL.out _).mono ?_
  rintro e w1 ⟨rfl, hb1⟩
  obtain ⟨hc1, hf1⟩ := bcf hb1
  have HBE := Lib.hid (bthen HBW.out hb1)
  have hz1 := hb1.size
  simp only [World.size_alloc] at hz1
  have l0 : w.heap.size < w1.heap.size := by omega
  have l1 : w.heap.size + 1 < w1.heap.size := by omega
  have l2 : w.heap.size + 2 < w1.heap.size := by omega
  have p0 : ¬ w.heap.size = w1.heap.size := by omega
  have p1 : ¬ w.heap.size + 1 = w1.heap.size := by omega
  have p2 : ¬ w.heap.size + 2 = w1.heap.size := by omega
  have G := fun (j : Nat) (v : Value) (h : (#[Value.int .u32 f0, .int .u32 f1, .int .u32 f2, .int .u32 f3, .int .u32 f4, .int .u32 f5, .int .u32 f6, .int .u64 c, .int .u64 i] : Array Value)[j]? = some v) => (hc1 w.heap.size j (by simp; omega)).trans (show _ = some v by simp [go_sem, h])
  have R := fun (j : Nat) (v : Value) (h : (#[Value.int .u32 0, .int .u32 0, .int .u32 0, .int .u32 0, .int .u32 0, .int .u32 0, .int .u32 0, .int .u64 0, .int .u64 0] : Array Value)[j]? = some v) => (hc1 (w.heap.size + 2) j (by simp)).trans (show _ = some v by simp [go_sem, h])
  have V := fun (j : Nat) (v : Value) (h : (#[Value.int .u64 t, .int .u64 r, .int .u64 ti, .int .u32 ca] : Array Value)[j]? = some v) => (hc1 (w.heap.size + 1) j (by simp)).trans (show _ = some v by simp [go_sem, h])
  have g0 := G 0 _ rfl
  have r0 := R 0 _ rfl
  have g1 := G 1 _ rfl
  have r1 := R 1 _ rfl
  have g2 := G 2 _ rfl
  have r2 := R 2 _ rfl
  have g3 := G 3 _ rfl
  have r3 := R 3 _ rfl
  have g4 := G 4 _ rfl
  have r4 := R 4 _ rfl
  have g5 := G 5 _ rfl
  have r5 := R 5 _ rfl
  have g6 := G 6 _ rfl
  have r6 := R 6 _ rfl
  have g7 := G 7 _ rfl
  have r7 := R 7 _ rfl
  have g8 := G 8 _ rfl
  have r8 := R 8 _ rfl
  have zg : ∀ j, w1.frozen? ⟨w.heap.size, j, none⟩ = false := fun j => (hf1 w.heap.size j (by simp; omega)).trans (by simp [go_sem])
  have zr : ∀ j, w1.frozen? ⟨w.heap.size + 2, j, none⟩ = false := fun j => (hf1 (w.heap.size + 2) j (by simp)).trans (by simp [go_sem])
  have v0 := V 0 _ rfl
  have v1 := V 1 _ rfl
  clear hc1 hf1 G R V hb1 hz1
  go_wp2
  refine bodyPost_ret (v := fileV f0 f1 f2 f3 f4 f5 f6 c i) (by simp [results, Tryd.results32, go_sem, fileV, *]) rfl ⟨rfl, ?_⟩
  repeat (first | (with_reducible exact HBE.out) | (with_reducible refine bal ?_ _) | (with_reducible refine bset ?_ ?_ _; rotate_left; (simp <;> omega)) | (with_reducible refine Below.drew ?_) | (with_reducible refine bdn ?_ _))
set_option maxHeartbeats 16000000 in
set_option maxRecDepth 100000 in
theorem rwr_2 (x f0 f1 f2 f3 f4 f5 f6 c i t r ti ca : Int) (hx : 0 ≤ x ∧ x ≤ 4294967295) (w : World) :
    Calls Tryd.prog 32 #[.agg #[.int .u32 f0, .int .u32 f1, .int .u32 f2, .int .u32 f3, .int .u32 f4, .int .u32 f5, .int .u32 f6, .int .u64 c, .int .u64 i], .int .i64 772, .int .u32 x, .agg #[.int .u64 t, .int .u64 r, .int .u64 ti, .int .u32 ca]] w fun e w' =>
      e = .returned (fileV f0 (legV 2 x) f2 f3 f4 f5 f6 c i) ∧ Below w.heap.size w w' := by
  have HL := Lib.hid (fun v => rlegal_c 772 x 2 (by decide) (first_at 2 (by decide)) v)
  generalize hy : legV 2 x = y at *
  clear hy
  have e4 : IntKind.u64.wrap x = x := cu64w _ (by omega) (by omega)
  clear hx
  have hbw := bal (bal (bal (Below.refl w.heap.size w) (.cells #[.int .u32 f0, .int .u32 f1, .int .u32 f2, .int .u32 f3, .int .u32 f4, .int .u32 f5, .int .u32 f6, .int .u64 c, .int .u64 i] 54)) (.cells #[.int .u64 t, .int .u64 r, .int .u64 ti, .int .u32 ca] 57)) (.cells #[.int .u32 0, .int .u32 0, .int .u32 0, .int .u32 0, .int .u32 0, .int .u32 0, .int .u32 0, .int .u64 0, .int .u64 0] 54)
  have HBW := Lib.hid hbw
  clear hbw
  go_enter Tryd.func32, Tryd.ntmps32
  go_wp2_with fail
  refine (HL.out _).mono ?_
  rintro e w1 ⟨rfl, hb1⟩
  obtain ⟨hc1, hf1⟩ := bcf hb1
  have HBE := Lib.hid (bthen HBW.out hb1)
  have hz1 := hb1.size
  simp only [World.size_alloc] at hz1
  have l0 : w.heap.size < w1.heap.size := by omega
  have l1 : w.heap.size + 1 < w1.heap.size := by omega
  have l2 : w.heap.size + 2 < w1.heap.size := by omega
  have p0 : ¬ w.heap.size = w1.heap.size := by omega
  have p1 : ¬ w.heap.size + 1 = w1.heap.size := by omega
  have p2 : ¬ w.heap.size + 2 = w1.heap.size := by omega
  have G := fun (j : Nat) (v : Value) (h : (#[Value.int .u32 f0, .int .u32 f1, .int .u32 f2, .int .u32 f3, .int .u32 f4, .int .u32 f5, .int .u32 f6, .int .u64 c, .int .u64 i] : Array Value)[j]? = some v) => (hc1 w.heap.size j (by simp; omega)).trans (show _ = some v by simp [go_sem, h])
  have R := fun (j : Nat) (v : Value) (h : (#[Value.int .u32 0, .int .u32 0, .int .u32 0, .int .u32 0, .int .u32 0, .int .u32 0, .int .u32 0, .int .u64 0, .int .u64 0] : Array Value)[j]? = some v) => (hc1 (w.heap.size + 2) j (by simp)).trans (show _ = some v by simp [go_sem, h])
  have V := fun (j : Nat) (v : Value) (h : (#[Value.int .u64 t, .int .u64 r, .int .u64 ti, .int .u32 ca] : Array Value)[j]? = some v) => (hc1 (w.heap.size + 1) j (by simp)).trans (show _ = some v by simp [go_sem, h])
  have g0 := G 0 _ rfl
  have r0 := R 0 _ rfl
  have g1 := G 1 _ rfl
  have r1 := R 1 _ rfl
  have g2 := G 2 _ rfl
  have r2 := R 2 _ rfl
  have g3 := G 3 _ rfl
  have r3 := R 3 _ rfl
  have g4 := G 4 _ rfl
  have r4 := R 4 _ rfl
  have g5 := G 5 _ rfl
  have r5 := R 5 _ rfl
  have g6 := G 6 _ rfl
  have r6 := R 6 _ rfl
  have g7 := G 7 _ rfl
  have r7 := R 7 _ rfl
  have g8 := G 8 _ rfl
  have r8 := R 8 _ rfl
  have zg : ∀ j, w1.frozen? ⟨w.heap.size, j, none⟩ = false := fun j => (hf1 w.heap.size j (by simp; omega)).trans (by simp [go_sem])
  have zr : ∀ j, w1.frozen? ⟨w.heap.size + 2, j, none⟩ = false := fun j => (hf1 (w.heap.size + 2) j (by simp)).trans (by simp [go_sem])
  have v0 := V 0 _ rfl
  have v1 := V 1 _ rfl
  clear hc1 hf1 G R V hb1 hz1
  go_wp2
  refine bodyPost_ret (v := fileV f0 y f2 f3 f4 f5 f6 c i) (by simp [results, Tryd.results32, go_sem, fileV, *]) rfl ⟨rfl, ?_⟩
  repeat (first | (with_reducible exact HBE.out) | (with_reducible refine bal ?_ _) | (with_reducible refine bset ?_ ?_ _; rotate_left; (simp <;> omega)) | (with_reducible refine Below.drew ?_) | (with_reducible refine bdn ?_ _))
set_option maxHeartbeats 16000000 in
set_option maxRecDepth 100000 in
theorem rwr_3 (x f0 f1 f2 f3 f4 f5 f6 c i t r ti ca : Int) (hx : 0 ≤ x ∧ x ≤ 4294967295) (w : World) :
    Calls Tryd.prog 32 #[.agg #[.int .u32 f0, .int .u32 f1, .int .u32 f2, .int .u32 f3, .int .u32 f4, .int .u32 f5, .int .u32 f6, .int .u64 c, .int .u64 i], .int .i64 773, .int .u32 x, .agg #[.int .u64 t, .int .u64 r, .int .u64 ti, .int .u32 ca]] w fun e w' =>
      e = .returned (fileV f0 f1 (legV 3 x) f3 f4 f5 f6 c i) ∧ Below w.heap.size w w' := by
  have HL := Lib.hid (fun v => rlegal_c 773 x 3 (by decide) (first_at 3 (by decide)) v)
  generalize hy : legV 3 x = y at *
  clear hy
  have e4 : IntKind.u64.wrap x = x := cu64w _ (by omega) (by omega)
  clear hx
  have hbw := bal (bal (bal (Below.refl w.heap.size w) (.cells #[.int .u32 f0, .int .u32 f1, .int .u32 f2, .int .u32 f3, .int .u32 f4, .int .u32 f5, .int .u32 f6, .int .u64 c, .int .u64 i] 54)) (.cells #[.int .u64 t, .int .u64 r, .int .u64 ti, .int .u32 ca] 57)) (.cells #[.int .u32 0, .int .u32 0, .int .u32 0, .int .u32 0, .int .u32 0, .int .u32 0, .int .u32 0, .int .u64 0, .int .u64 0] 54)
  have HBW := Lib.hid hbw
  clear hbw
  go_enter Tryd.func32, Tryd.ntmps32
  go_wp2_with fail
  refine (HL.out _).mono ?_
  rintro e w1 ⟨rfl, hb1⟩
  obtain ⟨hc1, hf1⟩ := bcf hb1
  have HBE := Lib.hid (bthen HBW.out hb1)
  have hz1 := hb1.size
  simp only [World.size_alloc] at hz1
  have l0 : w.heap.size < w1.heap.size := by omega
  have l1 : w.heap.size + 1 < w1.heap.size := by omega
  have l2 : w.heap.size + 2 < w1.heap.size := by omega
  have p0 : ¬ w.heap.size = w1.heap.size := by omega
  have p1 : ¬ w.heap.size + 1 = w1.heap.size := by omega
  have p2 : ¬ w.heap.size + 2 = w1.heap.size := by omega
  have G := fun (j : Nat) (v : Value) (h : (#[Value.int .u32 f0, .int .u32 f1, .int .u32 f2, .int .u32 f3, .int .u32 f4, .int .u32 f5, .int .u32 f6, .int .u64 c, .int .u64 i] : Array Value)[j]? = some v) => (hc1 w.heap.size j (by simp; omega)).trans (show _ = some v by simp [go_sem, h])
  have R := fun (j : Nat) (v : Value) (h : (#[Value.int .u32 0, .int .u32 0, .int .u32 0, .int .u32 0, .int .u32 0, .int .u32 0, .int .u32 0, .int .u64 0, .int .u64 0] : Array Value)[j]? = some v) => (hc1 (w.heap.size + 2) j (by simp)).trans (show _ = some v by simp [go_sem, h])
  have V := fun (j : Nat) (v : Value) (h : (#[Value.int .u64 t, .int .u64 r, .int .u64 ti, .int .u32 ca] : Array Value)[j]? = some v) => (hc1 (w.heap.size + 1) j (by simp)).trans (show _ = some v by simp [go_sem, h])
  have g0 := G 0 _ rfl
  have r0 := R 0 _ rfl
  have g1 := G 1 _ rfl
  have r1 := R 1 _ rfl
  have g2 := G 2 _ rfl
  have r2 := R 2 _ rfl
  have g3 := G 3 _ rfl
  have r3 := R 3 _ rfl
  have g4 := G 4 _ rfl
  have r4 := R 4 _ rfl
  have g5 := G 5 _ rfl
  have r5 := R 5 _ rfl
  have g6 := G 6 _ rfl
  have r6 := R 6 _ rfl
  have g7 := G 7 _ rfl
  have r7 := R 7 _ rfl
  have g8 := G 8 _ rfl
  have r8 := R 8 _ rfl
  have zg : ∀ j, w1.frozen? ⟨w.heap.size, j, none⟩ = false := fun j => (hf1 w.heap.size j (by simp; omega)).trans (by simp [go_sem])
  have zr : ∀ j, w1.frozen? ⟨w.heap.size + 2, j, none⟩ = false := fun j => (hf1 (w.heap.size + 2) j (by simp)).trans (by simp [go_sem])
  have v0 := V 0 _ rfl
  have v1 := V 1 _ rfl
  clear hc1 hf1 G R V hb1 hz1
  go_wp2
  refine bodyPost_ret (v := fileV f0 f1 y f3 f4 f5 f6 c i) (by simp [results, Tryd.results32, go_sem, fileV, *]) rfl ⟨rfl, ?_⟩
  repeat (first | (with_reducible exact HBE.out) | (with_reducible refine bal ?_ _) | (with_reducible refine bset ?_ ?_ _; rotate_left; (simp <;> omega)) | (with_reducible refine Below.drew ?_) | (with_reducible refine bdn ?_ _))
set_option maxHeartbeats 16000000 in
set_option maxRecDepth 100000 in
theorem rwr_4 (x f0 f1 f2 f3 f4 f5 f6 c i t r ti ca : Int) (hx : 0 ≤ x ∧ x ≤ 4294967295) (w : World) :
    Calls Tryd.prog 32 #[.agg #[.int .u32 f0, .int .u32 f1, .int .u32 f2, .int .u32 f3, .int .u32 f4, .int .u32 f5, .int .u32 f6, .int .u64 c, .int .u64 i], .int .i64 832, .int .u32 x, .agg #[.int .u64 t, .int .u64 r, .int .u64 ti, .int .u32 ca]] w fun e w' =>
      e = .returned (fileV f0 f1 f2 (legV 4 x) f4 f5 f6 c i) ∧ Below w.heap.size w w' := by
  have HL := Lib.hid (fun v => rlegal_c 832 x 4 (by decide) (first_at 4 (by decide)) v)
  generalize hy : legV 4 x = y at *
  clear hy
  have e4 : IntKind.u64.wrap x = x := cu64w _ (by omega) (by omega)
  clear hx
  have hbw := bal (bal (bal (Below.refl w.heap.size w) (.cells #[.int .u32 f0, .int .u32 f1, .int .u32 f2, .int .u32 f3, .int .u32 f4, .int .u32 f5, .int .u32 f6, .int .u64 c, .int .u64 i] 54)) (.cells #[.int .u64 t, .int .u64 r, .int .u64 ti, .int .u32 ca] 57)) (.cells #[.int .u32 0, .int .u32 0, .int .u32 0, .int .u32 0, .int .u32 0, .int .u32 0, .int .u32 0, .int .u64 0, .int .u64 0] 54)
  have HBW := Lib.hid hbw
  clear hbw
  go_enter Tryd.func32, Tryd.ntmps32
  go_wp2_with fail
  refine (HL.out _).mono ?_
  rintro e w1 ⟨rfl, hb1⟩
  obtain ⟨hc1, hf1⟩ := bcf hb1
  have HBE := Lib.hid (bthen HBW.out hb1)
  have hz1 := hb1.size
  simp only [World.size_alloc] at hz1
  have l0 : w.heap.size < w1.heap.size := by omega
  have l1 : w.heap.size + 1 < w1.heap.size := by omega
  have l2 : w.heap.size + 2 < w1.heap.size := by omega
  have p0 : ¬ w.heap.size = w1.heap.size := by omega
  have p1 : ¬ w.heap.size + 1 = w1.heap.size := by omega
  have p2 : ¬ w.heap.size + 2 = w1.heap.size := by omega
  have G := fun (j : Nat) (v : Value) (h : (#[Value.int .u32 f0, .int .u32 f1, .int .u32 f2, .int .u32 f3, .int .u32 f4, .int .u32 f5, .int .u32 f6, .int .u64 c, .int .u64 i] : Array Value)[j]? = some v) => (hc1 w.heap.size j (by simp; omega)).trans (show _ = some v by simp [go_sem, h])
  have R := fun (j : Nat) (v : Value) (h : (#[Value.int .u32 0, .int .u32 0, .int .u32 0, .int .u32 0, .int .u32 0, .int .u32 0, .int .u32 0, .int .u64 0, .int .u64 0] : Array Value)[j]? = some v) => (hc1 (w.heap.size + 2) j (by simp)).trans (show _ = some v by simp [go_sem, h])
  have V := fun (j : Nat) (v : Value) (h : (#[Value.int .u64 t, .int .u64 r, .int .u64 ti, .int .u32 ca] : Array Value)[j]? = some v) => (hc1 (w.heap.size + 1) j (by simp)).trans (show _ = some v by simp [go_sem, h])
  have g0 := G 0 _ rfl
  have r0 := R 0 _ rfl
  have g1 := G 1 _ rfl
  have r1 := R 1 _ rfl
  have g2 := G 2 _ rfl
  have r2 := R 2 _ rfl
  have g3 := G 3 _ rfl
  have r3 := R 3 _ rfl
  have g4 := G 4 _ rfl
  have r4 := R 4 _ rfl
  have g5 := G 5 _ rfl
  have r5 := R 5 _ rfl
  have g6 := G 6 _ rfl
  have r6 := R 6 _ rfl
  have g7 := G 7 _ rfl
  have r7 := R 7 _ rfl
  have g8 := G 8 _ rfl
  have r8 := R 8 _ rfl
  have zg : ∀ j, w1.frozen? ⟨w.heap.size, j, none⟩ = false := fun j => (hf1 w.heap.size j (by simp; omega)).trans (by simp [go_sem])
  have zr : ∀ j, w1.frozen? ⟨w.heap.size + 2, j, none⟩ = false := fun j => (hf1 (w.heap.size + 2) j (by simp)).trans (by simp [go_sem])
  have v0 := V 0 _ rfl
  have v1 := V 1 _ rfl
  clear hc1 hf1 G R V hb1 hz1
  go_wp2
  refine bodyPost_ret (v := fileV f0 f1 f2 y f4 f5 f6 c i) (by simp [results, Tryd.results32, go_sem, fileV, *]) rfl ⟨rfl, ?_⟩
  repeat (first | (with_reducible exact HBE.out) | (with_reducible refine bal ?_ _) | (with_reducible refine bset ?_ ?_ _; rotate_left; (simp <;> omega)) | (with_reducible refine Below.drew ?_) | (with_reducible refine bdn ?_ _))
set_option maxHeartbeats 16000000 in
set_option maxRecDepth 100000 in
theorem rwr_5 (x f0 f1 f2 f3 f4 f5 f6 c i t r ti ca : Int) (hx : 0 ≤ x ∧ x ≤ 4294967295) (w : World) :
    Calls Tryd.prog 32 #[.agg #[.int .u32 f0, .int .u32 f1, .int .u32 f2, .int .u32 f3, .int .u32 f4, .int .u32 f5, .int .u32 f6, .int .u64 c, .int .u64 i], .int .i64 833, .int .u32 x, .agg #[.int .u64 t, .int .u64 r, .int .u64 ti, .int .u32 ca]] w fun e w' =>
      e = .returned (fileV f0 f1 f2 f3 (legV 5 x) f5 f6 c i) ∧ Below w.heap.size w w' := by
  have HL := Lib.hid (fun v => rlegal_c 833 x 5 (by decide) (first_at 5 (by decide)) v)
  generalize hy : legV 5 x = y at *
  clear hy
  have e4 : IntKind.u64.wrap x = x := cu64w _ (by omega) (by omega)
  clear hx
  have hbw := bal (bal (bal (Below.refl w.heap.size w) (.cells #[.int .u32 f0, .int .u32 f1, .int .u32 f2, .int .u32 f3, .int .u32 f4, .int .u32 f5, .int .u32 f6, .int .u64 c, .int .u64 i] 54)) (.cells #[.int .u64 t, .int .u64 r, .int .u64 ti, .int .u32 ca] 57)) (.cells #[.int .u32 0, .int .u32 0, .int .u32 0, .int .u32 0, .int .u32 0, .int .u32 0, .int .u32 0, .int .u64 0, .int .u64 0] 54)
  have HBW := Lib.hid hbw
  clear hbw
  go_enter Tryd.func32, Tryd.ntmps32
  go_wp2_with fail
  refine (HL.out _).mono ?_
  rintro e w1 ⟨rfl, hb1⟩
  obtain ⟨hc1, hf1⟩ := bcf hb1
  have HBE := Lib.hid (bthen HBW.out hb1)
  have hz1 := hb1.size
  simp only [World.size_alloc] at hz1
  have l0 : w.heap.size < w1.heap.size := by omega
  have l1 : w.heap.size + 1 < w1.heap.size := by omega
  have l2 : w.heap.size + 2 < w1.heap.size := by omega
  have p0 : ¬ w.heap.size = w1.heap.size := by omega
  have p1 : ¬ w.heap.size + 1 = w1.heap.size := by omega
  have p2 : ¬ w.heap.size + 2 = w1.heap.size := by omega
  have G := fun (j : Nat) (v : Value) (h : (#[Value.int .u32 f0, .int .u32 f1, .int .u32 f2, .int .u32 f3, .int .u32 f4, .int .u32 f5, .int .u32 f6, .int .u64 c, .int .u64 i] : Array Value)[j]? = some v) => (hc1 w.heap.size j (by simp; omega)).trans (show _ = some v by simp [go_sem, h])
  have R := fun (j : Nat) (v : Value) (h : (#[Value.int .u32 0, .int .u32 0, .int .u32 0, .int .u32 0, .int .u32 0, .int .u32 0, .int .u32 0, .int .u64 0, .int .u64 0] : Array Value)[j]? = some v) => (hc1 (w.heap.size + 2) j (by simp)).trans (show _ = some v by simp [go_sem, h])
  have V := fun (j : Nat) (v : Value) (h : (#[Value.int .u64 t, .int .u64 r, .int .u64 ti, .int .u32 ca] : Array Value)[j]? = some v) => (hc1 (w.heap.size + 1) j (by simp)).trans (show _ = some v by simp [go_sem, h])
  have g0 := G 0 _ rfl
  have r0 := R 0 _ rfl
  have g1 := G 1 _ rfl
  have r1 := R 1 _ rfl
  have g2 := G 2 _ rfl
  have r2 := R 2 _ rfl
  have g3 := G 3 _ rfl
  have r3 := R 3 _ rfl
  have g4 := G 4 _ rfl
  have r4 := R 4 _ rfl
  have g5 := G 5 _ rfl
  have r5 := R 5 _ rfl
  have g6 := G 6 _ rfl
  have r6 := R 6 _ rfl
  have g7 := G 7 _ rfl
  have r7 := R 7 _ rfl
  have g8 := G 8 _ rfl
  have r8 := R 8 _ rfl
  have zg : ∀ j, w1.frozen? ⟨w.heap.size, j, none⟩ = false := fun j => (hf1 w.heap.size j (by simp; omega)).trans (by simp [go_sem])
  have zr : ∀ j, w1.frozen? ⟨w.heap.size + 2, j, none⟩ = false := fun j => (hf1 (w.heap.size + 2) j (by simp)).trans (by simp [go_sem])
  have v0 := V 0 _ rfl
  have v1 := V 1 _ rfl
  clear hc1 hf1 G R V hb1 hz1
  go_wp2
  refine bodyPost_ret (v := fileV f0 f1 f2 f3 y f5 f6 c i) (by simp [results, Tryd.results32, go_sem, fileV, *]) rfl ⟨rfl, ?_⟩
  repeat (first | (with_reducible exact HBE.out) | (with_reducible refine bal ?_ _) | (with_reducible refine bset ?_ ?_ _; rotate_left; (simp <;> omega)) | (with_reducible refine Below.drew ?_) | (with_reducible refine bdn ?_ _))
set_option maxHeartbeats 16000000 in
set_option maxRecDepth 100000 in
theorem rwr_6 (x f0 f1 f2 f3 f4 f5 f6 c i t r ti ca : Int) (hx : 0 ≤ x ∧ x ≤ 4294967295) (w : World) :
    Calls Tryd.prog 32 #[.agg #[.int .u32 f0, .int .u32 f1, .int .u32 f2, .int .u32 f3, .int .u32 f4, .int .u32 f5, .int .u32 f6, .int .u64 c, .int .u64 i], .int .i64 834, .int .u32 x, .agg #[.int .u64 t, .int .u64 r, .int .u64 ti, .int .u32 ca]] w fun e w' =>
      e = .returned (fileV f0 f1 f2 f3 f4 (legV 6 x) f6 c i) ∧ Below w.heap.size w w' := by
  have HL := Lib.hid (fun v => rlegal_c 834 x 6 (by decide) (first_at 6 (by decide)) v)
  generalize hy : legV 6 x = y at *
  clear hy
  have e4 : IntKind.u64.wrap x = x := cu64w _ (by omega) (by omega)
  clear hx
  have hbw := bal (bal (bal (Below.refl w.heap.size w) (.cells #[.int .u32 f0, .int .u32 f1, .int .u32 f2, .int .u32 f3, .int .u32 f4, .int .u32 f5, .int .u32 f6, .int .u64 c, .int .u64 i] 54)) (.cells #[.int .u64 t, .int .u64 r, .int .u64 ti, .int .u32 ca] 57)) (.cells #[.int .u32 0, .int .u32 0, .int .u32 0, .int .u32 0, .int .u32 0, .int .u32 0, .int .u32 0, .int .u64 0, .int .u64 0] 54)
  have HBW := Lib.hid hbw
  clear hbw
  go_enter Tryd.func32, Tryd.ntmps32
  go_wp2_with fail
  refine (HL.out _).mono ?_
  rintro e w1 ⟨rfl, hb1⟩
  obtain ⟨hc1, hf1⟩ := bcf hb1
  have HBE := Lib.hid (bthen HBW.out hb1)
  have hz1 := hb1.size
  simp only [World.size_alloc] at hz1
  have l0 : w.heap.size < w1.heap.size := by omega
  have l1 : w.heap.size + 1 < w1.heap.size := by omega
  have l2 : w.heap.size + 2 < w1.heap.size := by omega
  have p0 : ¬ w.heap.size = w1.heap.size := by omega
  have p1 : ¬ w.heap.size + 1 = w1.heap.size := by omega
  have p2 : ¬ w.heap.size + 2 = w1.heap.size := by omega
  have G := fun (j : Nat) (v : Value) (h : (#[Value.int .u32 f0, .int .u32 f1, .int .u32 f2, .int .u32 f3, .int .u32 f4, .int .u32 f5, .int .u32 f6, .int .u64 c, .int .u64 i] : Array Value)[j]? = some v) => (hc1 w.heap.size j (by simp; omega)).trans (show _ = some v by simp [go_sem, h])
  have R := fun (j : Nat) (v : Value) (h : (#[Value.int .u32 0, .int .u32 0, .int .u32 0, .int .u32 0, .int .u32 0, .int .u32 0, .int .u32 0, .int .u64 0, .int .u64 0] : Array Value)[j]? = some v) => (hc1 (w.heap.size + 2) j (by simp)).trans (show _ = some v by simp [go_sem, h])
  have V := fun (j : Nat) (v : Value) (h : (#[Value.int .u64 t, .int .u64 r, .int .u64 ti, .int .u32 ca] : Array Value)[j]? = some v) => (hc1 (w.heap.size + 1) j (by simp)).trans (show _ = some v by simp [go_sem, h])
  have g0 := G 0 _ rfl
  have r0 := R 0 _ rfl
  have g1 := G 1 _ rfl
  have r1 := R 1 _ rfl
  have g2 := G 2 _ rfl
  have r2 := R 2 _ rfl
  have g3 := G 3 _ rfl
  have r3 := R 3 _ rfl
  have g4 := G 4 _ rfl
  have r4 := R 4 _ rfl
  have g5 := G 5 _ rfl
  have r5 := R 5 _ rfl
  have g6 := G 6 _ rfl
  have r6 := R 6 _ rfl
  have g7 := G 7 _ rfl
  have r7 := R 7 _ rfl
  have g8 := G 8 _ rfl
  have r8 := R 8 _ rfl
  have zg : ∀ j, w1.frozen? ⟨w.heap.size, j, none⟩ = false := fun j => (hf1 w.heap.size j (by simp; omega)).trans (by simp [go_sem])
  have zr : ∀ j, w1.frozen? ⟨w.heap.size + 2, j, none⟩ = false := fun j => (hf1 (w.heap.size + 2) j (by simp)).trans (by simp [go_sem])
  have v0 := V 0 _ rfl
  have v1 := V 1 _ rfl
  clear hc1 hf1 G R V hb1 hz1
  go_wp2
  refine bodyPost_ret (v := fileV f0 f1 f2 f3 f4 y f6 c i) (by simp [results, Tryd.results32, go_sem, fileV, *]) rfl ⟨rfl, ?_⟩
  repeat (first | (with_reducible exact HBE.out) | (with_reducible refine bal ?_ _) | (with_reducible refine bset ?_ ?_ _; rotate_left; (simp <;> omega)) | (with_reducible refine Below.drew ?_) | (with_reducible refine bdn ?_ _))
set_option maxHeartbeats 16000000 in
set_option maxRecDepth 100000 in
theorem rwr_7 (x f0 f1 f2 f3 f4 f5 f6 c i t r ti ca : Int) (hx : 0 ≤ x ∧ x ≤ 4294967295) (w : World) :
    Calls Tryd.prog 32 #[.agg #[.int .u32 f0, .int .u32 f1, .int .u32 f2, .int .u32 f3, .int .u32 f4, .int .u32 f5, .int .u32 f6, .int .u64 c, .int .u64 i], .int .i64 835, .int .u32 x, .agg #[.int .u64 t, .int .u64 r, .int .u64 ti, .int .u32 ca]] w fun e w' =>
      e = .returned (fileV f0 f1 f2 f3 f4 f5 (legV 7 x) c i) ∧ Below w.heap.size w w' := by
  have HL := Lib.hid (fun v => rlegal_c 835 x 7 (by decide) (first_at 7 (by decide)) v)
  generalize hy : legV 7 x = y at *
  clear hy
  have e4 : IntKind.u64.wrap x = x := cu64w _ (by omega) (by omega)
  clear hx
  have hbw := bal (bal (bal (Below.refl w.heap.size w) (.cells #[.int .u32 f0, .int .u32 f1, .int .u32 f2, .int .u32 f3, .int .u32 f4, .int .u32 f5, .int .u32 f6, .int .u64 c, .int .u64 i] 54)) (.cells #[.int .u64 t, .int .u64 r, .int .u64 ti, .int .u32 ca] 57)) (.cells #[.int .u32 0, .int .u32 0, .int .u32 0, .int .u32 0, .int .u32 0, .int .u32 0, .int .u32 0, .int .u64 0, .int .u64 0] 54)
  have HBW := Lib.hid hbw
  clear hbw
  go_enter Tryd.func32, Tryd.ntmps32
  go_wp2_with fail
  refine (HL.out _).mono ?_
  rintro e w1 ⟨rfl, hb1⟩
  obtain ⟨hc1, hf1⟩ := bcf hb1
  have HBE := Lib.hid (bthen HBW.out hb1)
  have hz1 := hb1.size
  simp only [World.size_alloc] at hz1
  have l0 : w.heap.size < w1.heap.size := by omega
  have l1 : w.heap.size + 1 < w1.heap.size := by omega
  have l2 : w.heap.size + 2 < w1.heap.size := by omega
  have p0 : ¬ w.heap.size = w1.heap.size := by omega
  have p1 : ¬ w.heap.size + 1 = w1.heap.size := by omega
  have p2 : ¬ w.heap.size + 2 = w1.heap.size := by omega
  have G := fun (j : Nat) (v : Value) (h : (#[Value.int .u32 f0, .int .u32 f1, .int .u32 f2, .int .u32 f3, .int .u32 f4, .int .u32 f5, .int .u32 f6, .int .u64 c, .int .u64 i] : Array Value)[j]? = some v) => (hc1 w.heap.size j (by simp; omega)).trans (show _ = some v by simp [go_sem, h])
  have R := fun (j : Nat) (v : Value) (h : (#[Value.int .u32 0, .int .u32 0, .int .u32 0, .int .u32 0, .int .u32 0, .int .u32 0, .int .u32 0, .int .u64 0, .int .u64 0] : Array Value)[j]? = some v) => (hc1 (w.heap.size + 2) j (by simp)).trans (show _ = some v by simp [go_sem, h])
  have V := fun (j : Nat) (v : Value) (h : (#[Value.int .u64 t, .int .u64 r, .int .u64 ti, .int .u32 ca] : Array Value)[j]? = some v) => (hc1 (w.heap.size + 1) j (by simp)).trans (show _ = some v by simp [go_sem, h])
  have g0 := G 0 _ rfl
  have r0 := R 0 _ rfl
  have g1 := G 1 _ rfl
  have r1 := R 1 _ rfl
  have g2 := G 2 _ rfl
  have r2 := R 2 _ rfl
  have g3 := G 3 _ rfl
  have r3 := R 3 _ rfl
  have g4 := G 4 _ rfl
  have r4 := R 4 _ rfl
  have g5 := G 5 _ rfl
  have r5 := R 5 _ rfl
  have g6 := G 6 _ rfl
  have r6 := R 6 _ rfl
  have g7 := G 7 _ rfl
  have r7 := R 7 _ rfl
  have g8 := G 8 _ rfl
  have r8 := R 8 _ rfl
  have zg : ∀ j, w1.frozen? ⟨w.heap.size, j, none⟩ = false := fun j => (hf1 w.heap.size j (by simp; omega)).trans (by simp [go_sem])
  have zr : ∀ j, w1.frozen? ⟨w.heap.size + 2, j, none⟩ = false := fun j => (hf1 (w.heap.size + 2) j (by simp)).trans (by simp [go_sem])
  have v0 := V 0 _ rfl
  have v1 := V 1 _ rfl
  clear hc1 hf1 G R V hb1 hz1
  go_wp2
  refine bodyPost_ret (v := fileV f0 f1 f2 f3 f4 f5 y c i) (by simp [results, Tryd.results32, go_sem, fileV, *]) rfl ⟨rfl, ?_⟩
  repeat (first | (with_reducible exact HBE.out) | (with_reducible refine bal ?_ _) | (with_reducible refine bset ?_ ?_ _; rotate_left; (simp <;> omega)) | (with_reducible refine Below.drew ?_) | (with_reducible refine bdn ?_ _))
set_option maxHeartbeats 16000000 in
set_option maxRecDepth 100000 in
theorem rwr_8 (x f0 f1 f2 f3 f4 f5 f6 c i t r ti ca : Int) (hx : 0 ≤ x ∧ x ≤ 4294967295) (w : World) :
    Calls Tryd.prog 32 #[.agg #[.int .u32 f0, .int .u32 f1, .int .u32 f2, .int .u32 f3, .int .u32 f4, .int .u32 f5, .int .u32 f6, .int .u64 c, .int .u64 i], .int .i64 836, .int .u32 x, .agg #[.int .u64 t, .int .u64 r, .int .u64 ti, .int .u32 ca]] w fun e w' =>
      e = .returned (fileV f0 f1 f2 f3 f4 f5 f6 c i) ∧ Below w.heap.size w w' := by
  have HL := Lib.hid (fun v => rlegal_c 836 x 8 (by decide) (first_at 8 (by decide)) v)
  generalize hy : legV 8 x = y at *
  clear hy
  have e4 : IntKind.u64.wrap x = x := cu64w _ (by omega) (by omega)
  clear hx
  have hbw := bal (bal (bal (Below.refl w.heap.size w) (.cells #[.int .u32 f0, .int .u32 f1, .int .u32 f2, .int .u32 f3, .int .u32 f4, .int .u32 f5, .int .u32 f6, .int .u64 c, .int .u64 i] 54)) (.cells #[.int .u64 t, .int .u64 r, .int .u64 ti, .int .u32 ca] 57)) (.cells #[.int .u32 0, .int .u32 0, .int .u32 0, .int .u32 0, .int .u32 0, .int .u32 0, .int .u32 0, .int .u64 0, .int .u64 0] 54)
  have HBW := Lib.hid hbw
  clear hbw
  go_enter Tryd.func32, Tryd.ntmps32
  go_wp2_with fail
  refine (HL.out _).mono ?_
  rintro e w1 ⟨rfl, hb1⟩
  obtain ⟨hc1, hf1⟩ := bcf hb1
  have HBE := Lib.hid (bthen HBW.out hb1)
  have hz1 := hb1.size
  simp only [World.size_alloc] at hz1
  have l0 : w.heap.size < w1.heap.size := by omega
  have l1 : w.heap.size + 1 < w1.heap.size := by omega
  have l2 : w.heap.size + 2 < w1.heap.size := by omega
  have p0 : ¬ w.heap.size = w1.heap.size := by omega
  have p1 : ¬ w.heap.size + 1 = w1.heap.size := by omega
  have p2 : ¬ w.heap.size + 2 = w1.heap.size := by omega
  have G := fun (j : Nat) (v : Value) (h : (#[Value.int .u32 f0, .int .u32 f1, .int .u32 f2, .int .u32 f3, .int .u32 f4, .int .u32 f5, .int .u32 f6, .int .u64 c, .int .u64 i] : Array Value)[j]? = some v) => (hc1 w.heap.size j (by simp; omega)).trans (show _ = some v by simp [go_sem, h])
  have R := fun (j : Nat) (v : Value) (h : (#[Value.int .u32 0, .int .u32 0, .int .u32 0, .int .u32 0, .int .u32 0, .int .u32 0, .int .u32 0, .int .u64 0, .int .u64 0] : Array Value)[j]? = some v) => (hc1 (w.heap.size + 2) j (by simp)).trans (show _ = some v by simp [go_sem, h])
  have V := fun (j : Nat) (v : Value) (h : (#[Value.int .u64 t, .int .u64 r, .int .u64 ti, .int .u32 ca] : Array Value)[j]? = some v) => (hc1 (w.heap.size + 1) j (by simp)).trans (show _ = some v by simp [go_sem, h])
  have g0 := G 0 _ rfl
  have r0 := R 0 _ rfl
  have g1 := G 1 _ rfl
  have r1 := R 1 _ rfl
  have g2 := G 2 _ rfl
  have r2 := R 2 _ rfl
  have g3 := G 3 _ rfl
  have r3 := R 3 _ rfl
  have g4 := G 4 _ rfl
  have r4 := R 4 _ rfl
  have g5 := G 5 _ rfl
  have r5 := R 5 _ rfl
  have g6 := G 6 _ rfl
  have r6 := R 6 _ rfl
  have g7 := G 7 _ rfl
  have r7 := R 7 _ rfl
  have g8 := G 8 _ rfl
  have r8 := R 8 _ rfl
  have zg : ∀ j, w1.frozen? ⟨w.heap.size, j, none⟩ = false := fun j => (hf1 w.heap.size j (by simp; omega)).trans (by simp [go_sem])
  have zr : ∀ j, w1.frozen? ⟨w.heap.size + 2, j, none⟩ = false := fun j => (hf1 (w.heap.size + 2) j (by simp)).trans (by simp [go_sem])
  have v0 := V 0 _ rfl
  have v1 := V 1 _ rfl
  clear hc1 hf1 G R V hb1 hz1
  go_wp2
  refine bodyPost_ret (v := fileV f0 f1 f2 f3 f4 f5 f6 c i) (by simp [results, Tryd.results32, go_sem, fileV, *]) rfl ⟨rfl, ?_⟩
  repeat (first | (with_reducible exact HBE.out) | (with_reducible refine bal ?_ _) | (with_reducible refine bset ?_ ?_ _; rotate_left; (simp <;> omega)) | (with_reducible refine Below.drew ?_) | (with_reducible refine bdn ?_ _))
set_option maxHeartbeats 16000000 in
set_option maxRecDepth 100000 in
theorem rwr_9 (x f0 f1 f2 f3 f4 f5 f6 c i t r ti ca : Int) (hx : 0 ≤ x ∧ x ≤ 4294967295) (w : World) :
    Calls Tryd.prog 32 #[.agg #[.int .u32 f0, .int .u32 f1, .int .u32 f2, .int .u32 f3, .int .u32 f4, .int .u32 f5, .int .u32 f6, .int .u64 c, .int .u64 i], .int .i64 2816, .int .u32 x, .agg #[.int .u64 t, .int .u64 r, .int .u64 ti, .int .u32 ca]] w fun e w' =>
      e = .returned (fileV f0 f1 f2 f3 f4 f5 f6 (IntKind.u64.wrap (IntKind.u64.wrap (putV false (IntKind.u64.wrap (t + c)) x - t) - 1)) i) ∧ Below w.heap.size w w' := by
  have HL := Lib.hid (fun v => rlegal_c 2816 x 9 (by decide) (first_at 9 (by decide)) v)
  generalize hy : legV 9 x = y at *
  clear hy
  have e4 : IntKind.u64.wrap x = x := cu64w _ (by omega) (by omega)
  have hN := wrap64_rng (t + c)
  have hs := put_same false (IntKind.u64.wrap (t + c)) x t hN hx
  generalize hm : IntKind.u64.wrap (t + c) = m at *
  have e1 : IntKind.u64.wrap (m / 4294967296) = m / 4294967296 := cu64w _ (by omega) (by omega)
  have e2 : IntKind.u64.wrap (m / 4294967296 * 4294967296) = m / 4294967296 * 4294967296 := cu64w _ (by omega) (by omega)
  have e3 : IntKind.u64.wrap (m / 4294967296 * 4294967296 + x) = putV false m x := (cu64w _ (by omega) (by omega)).trans rfl
  have e5 : m.tdiv 4294967296 = m / 4294967296 := Int.tdiv_eq_ediv_of_nonneg hN.1
  generalize putV false m x = q at *
  generalize IntKind.u64.wrap (IntKind.u64.wrap (q - t) - 1) = z at *
  clear hN
  clear hx
  have hbw := bal (bal (bal (Below.refl w.heap.size w) (.cells #[.int .u32 f0, .int .u32 f1, .int .u32 f2, .int .u32 f3, .int .u32 f4, .int .u32 f5, .int .u32 f6, .int .u64 c, .int .u64 i] 54)) (.cells #[.int .u64 t, .int .u64 r, .int .u64 ti, .int .u32 ca] 57)) (.cells #[.int .u32 0, .int .u32 0, .int .u32 0, .int .u32 0, .int .u32 0, .int .u32 0, .int .u32 0, .int .u64 0, .int .u64 0] 54)
  have HBW := Lib.hid hbw
  clear hbw
  go_enter Tryd.func32, Tryd.ntmps32
  go_wp2_with fail
  refine (HL.out _).mono ?_
  rintro e w1 ⟨rfl, hb1⟩
  obtain ⟨hc1, hf1⟩ := bcf hb1
  have HBE := Lib.hid (bthen HBW.out hb1)
  have hz1 := hb1.size
  simp only [World.size_alloc] at hz1
  have l0 : w.heap.size < w1.heap.size := by omega
  have l1 : w.heap.size + 1 < w1.heap.size := by omega
  have l2 : w.heap.size + 2 < w1.heap.size := by omega
  have p0 : ¬ w.heap.size = w1.heap.size := by omega
  have p1 : ¬ w.heap.size + 1 = w1.heap.size := by omega
  have p2 : ¬ w.heap.size + 2 = w1.heap.size := by omega
  have G := fun (j : Nat) (v : Value) (h : (#[Value.int .u32 f0, .int .u32 f1, .int .u32 f2, .int .u32 f3, .int .u32 f4, .int .u32 f5, .int .u32 f6, .int .u64 c, .int .u64 i] : Array Value)[j]? = some v) => (hc1 w.heap.size j (by simp; omega)).trans (show _ = some v by simp [go_sem, h])
  have R := fun (j : Nat) (v : Value) (h : (#[Value.int .u32 0, .int .u32 0, .int .u32 0, .int .u32 0, .int .u32 0, .int .u32 0, .int .u32 0, .int .u64 0, .int .u64 0] : Array Value)[j]? = some v) => (hc1 (w.heap.size + 2) j (by simp)).trans (show _ = some v by simp [go_sem, h])
  have V := fun (j : Nat) (v : Value) (h : (#[Value.int .u64 t, .int .u64 r, .int .u64 ti, .int .u32 ca] : Array Value)[j]? = some v) => (hc1 (w.heap.size + 1) j (by simp)).trans (show _ = some v by simp [go_sem, h])
  have g0 := G 0 _ rfl
  have r0 := R 0 _ rfl
  have g1 := G 1 _ rfl
  have r1 := R 1 _ rfl
  have g2 := G 2 _ rfl
  have r2 := R 2 _ rfl
  have g3 := G 3 _ rfl
  have r3 := R 3 _ rfl
  have g4 := G 4 _ rfl
  have r4 := R 4 _ rfl
  have g5 := G 5 _ rfl
  have r5 := R 5 _ rfl
  have g6 := G 6 _ rfl
  have r6 := R 6 _ rfl
  have g7 := G 7 _ rfl
  have r7 := R 7 _ rfl
  have g8 := G 8 _ rfl
  have r8 := R 8 _ rfl
  have zg : ∀ j, w1.frozen? ⟨w.heap.size, j, none⟩ = false := fun j => (hf1 w.heap.size j (by simp; omega)).trans (by simp [go_sem])
  have zr : ∀ j, w1.frozen? ⟨w.heap.size + 2, j, none⟩ = false := fun j => (hf1 (w.heap.size + 2) j (by simp)).trans (by simp [go_sem])
  have v0 := V 0 _ rfl
  have v1 := V 1 _ rfl
  clear hc1 hf1 G R V hb1 hz1
  go_wp2
  refine bodyPost_ret (v := fileV f0 f1 f2 f3 f4 f5 f6 z i) (by simp [results, Tryd.results32, go_sem, fileV, *]) rfl ⟨rfl, ?_⟩
  repeat (first | (with_reducible exact HBE.out) | (with_reducible refine bal ?_ _) | (with_reducible refine bset ?_ ?_ _; rotate_left; (simp <;> omega)) | (with_reducible refine Below.drew ?_) | (with_reducible refine bdn ?_ _))
set_option maxHeartbeats 16000000 in
set_option maxRecDepth 100000 in
theorem rwr_10 (x f0 f1 f2 f3 f4 f5 f6 c i t r ti ca : Int) (hx : 0 ≤ x ∧ x ≤ 4294967295) (w : World) :
    Calls Tryd.prog 32 #[.agg #[.int .u32 f0, .int .u32 f1, .int .u32 f2, .int .u32 f3, .int .u32 f4, .int .u32 f5, .int .u32 f6, .int .u64 c, .int .u64 i], .int .i64 2818, .int .u32 x, .agg #[.int .u64 t, .int .u64 r, .int .u64 ti, .int .u32 ca]] w fun e w' =>
      e = .returned (fileV f0 f1 f2 f3 f4 f5 f6 c (IntKind.u64.wrap (IntKind.u64.wrap (putV false (IntKind.u64.wrap (r + i)) x - r) - 1))) ∧ Below w.heap.size w w' := by
  have HL := Lib.hid (fun v => rlegal_c 2818 x 10 (by decide) (first_at 10 (by decide)) v)
  generalize hy : legV 10 x = y at *
  clear hy
  have e4 : IntKind.u64.wrap x = x := cu64w _ (by omega) (by omega)
  have hN := wrap64_rng (r + i)
  have hs := put_same false (IntKind.u64.wrap (r + i)) x r hN hx
  generalize hm : IntKind.u64.wrap (r + i) = m at *
  have e1 : IntKind.u64.wrap (m / 4294967296) = m / 4294967296 := cu64w _ (by omega) (by omega)
  have e2 : IntKind.u64.wrap (m / 4294967296 * 4294967296) = m / 4294967296 * 4294967296 := cu64w _ (by omega) (by omega)
  have e3 : IntKind.u64.wrap (m / 4294967296 * 4294967296 + x) = putV false m x := (cu64w _ (by omega) (by omega)).trans rfl
  have e5 : m.tdiv 4294967296 = m / 4294967296 := Int.tdiv_eq_ediv_of_nonneg hN.1
  generalize putV false m x = q at *
  generalize IntKind.u64.wrap (IntKind.u64.wrap (q - r) - 1) = z at *
  clear hN
  clear hx
  have hbw := bal (bal (bal (Below.refl w.heap.size w) (.cells #[.int .u32 f0, .int .u32 f1, .int .u32 f2, .int .u32 f3, .int .u32 f4, .int .u32 f5, .int .u32 f6, .int .u64 c, .int .u64 i] 54)) (.cells #[.int .u64 t, .int .u64 r, .int .u64 ti, .int .u32 ca] 57)) (.cells #[.int .u32 0, .int .u32 0, .int .u32 0, .int .u32 0, .int .u32 0, .int .u32 0, .int .u32 0, .int .u64 0, .int .u64 0] 54)
  have HBW := Lib.hid hbw
  clear hbw
  go_enter Tryd.func32, Tryd.ntmps32
  go_wp2_with fail
  refine (HL.out _).mono ?_
  rintro e w1 ⟨rfl, hb1⟩
  obtain ⟨hc1, hf1⟩ := bcf hb1
  have HBE := Lib.hid (bthen HBW.out hb1)
  have hz1 := hb1.size
  simp only [World.size_alloc] at hz1
  have l0 : w.heap.size < w1.heap.size := by omega
  have l1 : w.heap.size + 1 < w1.heap.size := by omega
  have l2 : w.heap.size + 2 < w1.heap.size := by omega
  have p0 : ¬ w.heap.size = w1.heap.size := by omega
  have p1 : ¬ w.heap.size + 1 = w1.heap.size := by omega
  have p2 : ¬ w.heap.size + 2 = w1.heap.size := by omega
  have G := fun (j : Nat) (v : Value) (h : (#[Value.int .u32 f0, .int .u32 f1, .int .u32 f2, .int .u32 f3, .int .u32 f4, .int .u32 f5, .int .u32 f6, .int .u64 c, .int .u64 i] : Array Value)[j]? = some v) => (hc1 w.heap.size j (by simp; omega)).trans (show _ = some v by simp [go_sem, h])
  have R := fun (j : Nat) (v : Value) (h : (#[Value.int .u32 0, .int .u32 0, .int .u32 0, .int .u32 0, .int .u32 0, .int .u32 0, .int .u32 0, .int .u64 0, .int .u64 0] : Array Value)[j]? = some v) => (hc1 (w.heap.size + 2) j (by simp)).trans (show _ = some v by simp [go_sem, h])
  have V := fun (j : Nat) (v : Value) (h : (#[Value.int .u64 t, .int .u64 r, .int .u64 ti, .int .u32 ca] : Array Value)[j]? = some v) => (hc1 (w.heap.size + 1) j (by simp)).trans (show _ = some v by simp [go_sem, h])
  have g0 := G 0 _ rfl
  have r0 := R 0 _ rfl
  have g1 := G 1 _ rfl
  have r1 := R 1 _ rfl
  have g2 := G 2 _ rfl
  have r2 := R 2 _ rfl
  have g3 := G 3 _ rfl
  have r3 := R 3 _ rfl
  have g4 := G 4 _ rfl
  have r4 := R 4 _ rfl
  have g5 := G 5 _ rfl
  have r5 := R 5 _ rfl
  have g6 := G 6 _ rfl
  have r6 := R 6 _ rfl
  have g7 := G 7 _ rfl
  have r7 := R 7 _ rfl
  have g8 := G 8 _ rfl
  have r8 := R 8 _ rfl
  have zg : ∀ j, w1.frozen? ⟨w.heap.size, j, none⟩ = false := fun j => (hf1 w.heap.size j (by simp; omega)).trans (by simp [go_sem])
  have zr : ∀ j, w1.frozen? ⟨w.heap.size + 2, j, none⟩ = false := fun j => (hf1 (w.heap.size + 2) j (by simp)).trans (by simp [go_sem])
  have v0 := V 0 _ rfl
  have v1 := V 1 _ rfl
  clear hc1 hf1 G R V hb1 hz1
  go_wp2
  refine bodyPost_ret (v := fileV f0 f1 f2 f3 f4 f5 f6 c z) (by simp [results, Tryd.results32, go_sem, fileV, *]) rfl ⟨rfl, ?_⟩
  repeat (first | (with_reducible exact HBE.out) | (with_reducible refine bal ?_ _) | (with_reducible refine bset ?_ ?_ _; rotate_left; (simp <;> omega)) | (with_reducible refine Below.drew ?_) | (with_reducible refine bdn ?_ _))
set_option maxHeartbeats 16000000 in
set_option maxRecDepth 100000 in
theorem rwr_11 (x f0 f1 f2 f3 f4 f5 f6 c i t r ti ca : Int) (hx : 0 ≤ x ∧ x ≤ 4294967295) (w : World) :
    Calls Tryd.prog 32 #[.agg #[.int .u32 f0, .int .u32 f1, .int .u32 f2, .int .u32 f3, .int .u32 f4, .int .u32 f5, .int .u32 f6, .int .u64 c, .int .u64 i], .int .i64 2944, .int .u32 x, .agg #[.int .u64 t, .int .u64 r, .int .u64 ti, .int .u32 ca]] w fun e w' =>
      e = .returned (fileV f0 f1 f2 f3 f4 f5 f6 (IntKind.u64.wrap (IntKind.u64.wrap (putV true (IntKind.u64.wrap (t + c)) x - t) - 1)) i) ∧ Below w.heap.size w w' := by
  have HL := Lib.hid (fun v => rlegal_c 2944 x 11 (by decide) (first_at 11 (by decide)) v)
  generalize hy : legV 11 x = y at *
  clear hy
  have e4 : IntKind.u64.wrap x = x := cu64w _ (by omega) (by omega)
  have hN := wrap64_rng (t + c)
  have hs := put_same true (IntKind.u64.wrap (t + c)) x t hN hx
  generalize hm : IntKind.u64.wrap (t + c) = m at *
  have e1 : IntKind.u64.wrap (x * 4294967296) = x * 4294967296 := cu64w _ (by omega) (by omega)
  have e3 : IntKind.u64.wrap (x * 4294967296 + m % 4294967296) = putV true m x := (cu64w _ (by omega) (by omega)).trans rfl
  have e5 : m.tmod 4294967296 = m % 4294967296 := Int.tmod_eq_emod_of_nonneg hN.1
  generalize putV true m x = q at *
  generalize IntKind.u64.wrap (IntKind.u64.wrap (q - t) - 1) = z at *
  clear hN
  clear hx
  have hbw := bal (bal (bal (Below.refl w.heap.size w) (.cells #[.int .u32 f0, .int .u32 f1, .int .u32 f2, .int .u32 f3, .int .u32 f4, .int .u32 f5, .int .u32 f6, .int .u64 c, .int .u64 i] 54)) (.cells #[.int .u64 t, .int .u64 r, .int .u64 ti, .int .u32 ca] 57)) (.cells #[.int .u32 0, .int .u32 0, .int .u32 0, .int .u32 0, .int .u32 0, .int .u32 0, .int .u32 0, .int .u64 0, .int .u64 0] 54)
  have HBW := Lib.hid hbw
  clear hbw
  go_enter Tryd.func32, Tryd.ntmps32
  go_wp2_with fail
  refine (HL.out _).mono ?_
  rintro e w1 ⟨rfl, hb1⟩
  obtain ⟨hc1, hf1⟩ := bcf hb1
  have HBE := Lib.hid (bthen HBW.out hb1)
  have hz1 := hb1.size
  simp only [World.size_alloc] at hz1
  have l0 : w.heap.size < w1.heap.size := by omega
  have l1 : w.heap.size + 1 < w1.heap.size := by omega
  have l2 : w.heap.size + 2 < w1.heap.size := by omega
  have p0 : ¬ w.heap.size = w1.heap.size := by omega
  have p1 : ¬ w.heap.size + 1 = w1.heap.size := by omega
  have p2 : ¬ w.heap.size + 2 = w1.heap.size := by omega
  have G := fun (j : Nat) (v : Value) (h : (#[Value.int .u32 f0, .int .u32 f1, .int .u32 f2, .int .u32 f3, .int .u32 f4, .int .u32 f5, .int .u32 f6, .int .u64 c, .int .u64 i] : Array Value)[j]? = some v) => (hc1 w.heap.size j (by simp; omega)).trans (show _ = some v by simp [go_sem, h])
  have R := fun (j : Nat) (v : Value) (h : (#[Value.int .u32 0, .int .u32 0, .int .u32 0, .int .u32 0, .int .u32 0, .int .u32 0, .int .u32 0, .int .u64 0, .int .u64 0] : Array Value)[j]? = some v) => (hc1 (w.heap.size + 2) j (by simp)).trans (show _ = some v by simp [go_sem, h])
  have V := fun (j : Nat) (v : Value) (h : (#[Value.int .u64 t, .int .u64 r, .int .u64 ti, .int .u32 ca] : Array Value)[j]? = some v) => (hc1 (w.heap.size + 1) j (by simp)).trans (show _ = some v by simp [go_sem, h])
  have g0 := G 0 _ rfl
  have r0 := R 0 _ rfl
  have g1 := G 1 _ rfl
  have r1 := R 1 _ rfl
  have g2 := G 2 _ rfl
  have r2 := R 2 _ rfl
  have g3 := G 3 _ rfl
  have r3 := R 3 _ rfl
  have g4 := G 4 _ rfl
  have r4 := R 4 _ rfl
  have g5 := G 5 _ rfl
  have r5 := R 5 _ rfl
  have g6 := G 6 _ rfl
  have r6 := R 6 _ rfl
  have g7 := G 7 _ rfl
  have r7 := R 7 _ rfl
  have g8 := G 8 _ rfl
  have r8 := R 8 _ rfl
  have zg : ∀ j, w1.frozen? ⟨w.heap.size, j, none⟩ = false := fun j => (hf1 w.heap.size j (by simp; omega)).trans (by simp [go_sem])
  have zr : ∀ j, w1.frozen? ⟨w.heap.size + 2, j, none⟩ = false := fun j => (hf1 (w.heap.size + 2) j (by simp)).trans (by simp [go_sem])
  have v0 := V 0 _ rfl
  have v1 := V 1 _ rfl
  clear hc1 hf1 G R V hb1 hz1
  go_wp2
  refine bodyPost_ret (v := fileV f0 f1 f2 f3 f4 f5 f6 z i) (by simp [results, Tryd.results32, go_sem, fileV, *]) rfl ⟨rfl, ?_⟩
  repeat (first | (with_reducible exact HBE.out) | (with_reducible refine bal ?_ _) | (with_reducible refine bset ?_ ?_ _; rotate_left; (simp <;> omega)) | (with_reducible refine Below.drew ?_) | (with_reducible refine bdn ?_ _))
set_option maxHeartbeats 16000000 in
set_option maxRecDepth 100000 in
theorem rwr_12 (x f0 f1 f2 f3 f4 f5 f6 c i t r ti ca : Int) (hx : 0 ≤ x ∧ x ≤ 4294967295) (w : World) :
    Calls Tryd.prog 32 #[.agg #[.int .u32 f0, .int .u32 f1, .int .u32 f2, .int .u32 f3, .int .u32 f4, .int .u32 f5, .int .u32 f6, .int .u64 c, .int .u64 i], .int .i64 2946, .int .u32 x, .agg #[.int .u64 t, .int .u64 r, .int .u64 ti, .int .u32 ca]] w fun e w' =>
      e = .returned (fileV f0 f1 f2 f3 f4 f5 f6 c (IntKind.u64.wrap (IntKind.u64.wrap (putV true (IntKind.u64.wrap (r + i)) x - r) - 1))) ∧ Below w.heap.size w w' := by
  have HL := Lib.hid (fun v => rlegal_c 2946 x 12 (by decide) (first_at 12 (by decide)) v)
  generalize hy : legV 12 x = y at *
  clear hy
  have e4 : IntKind.u64.wrap x = x := cu64w _ (by omega) (by omega)
  have hN := wrap64_rng (r + i)
  have hs := put_same true (IntKind.u64.wrap (r + i)) x r hN hx
  generalize hm : IntKind.u64.wrap (r + i) = m at *
  have e1 : IntKind.u64.wrap (x * 4294967296) = x * 4294967296 := cu64w _ (by omega) (by omega)
  have e3 : IntKind.u64.wrap (x * 4294967296 + m % 4294967296) = putV true m x := (cu64w _ (by omega) (by omega)).trans rfl
  have e5 : m.tmod 4294967296 = m % 4294967296 := Int.tmod_eq_emod_of_nonneg hN.1
  generalize putV true m x = q at *
  generalize IntKind.u64.wrap (IntKind.u64.wrap (q - r) - 1) = z at *
  clear hN
  clear hx
  have hbw := bal (bal (bal (Below.refl w.heap.size w) (.cells #[.int .u32 f0, .int .u32 f1, .int .u32 f2, .int .u32 f3, .int .u32 f4, .int .u32 f5, .int .u32 f6, .int .u64 c, .int .u64 i] 54)) (.cells #[.int .u64 t, .int .u64 r, .int .u64 ti, .int .u32 ca] 57)) (.cells #[.int .u32 0, .int .u32 0, .int .u32 0, .int .u32 0, .int .u32 0, .int .u32 0, .int .u32 0, .int .u64 0, .int .u64 0] 54)
  have HBW := Lib.hid hbw
  clear hbw
  go_enter Tryd.func32, Tryd.ntmps32
  go_wp2_with fail
  refine (HL.out _).mono ?_
  rintro e w1 ⟨rfl, hb1⟩
  obtain ⟨hc1, hf1⟩ := bcf hb1
  have HBE := Lib.hid (bthen HBW.out hb1)
  have hz1 := hb1.size
  simp only [World.size_alloc] at hz1
  have l0 : w.heap.size < w1.heap.size := by omega
  have l1 : w.heap.size + 1 < w1.heap.size := by omega
  have l2 : w.heap.size + 2 < w1.heap.size := by omega
  have p0 : ¬ w.heap.size = w1.heap.size := by omega
  have p1 : ¬ w.heap.size + 1 = w1.heap.size := by omega
  have p2 : ¬ w.heap.size + 2 = w1.heap.size := by omega
  have G := fun (j : Nat) (v : Value) (h : (#[Value.int .u32 f0, .int .u32 f1, .int .u32 f2, .int .u32 f3, .int .u32 f4, .int .u32 f5, .int .u32 f6, .int .u64 c, .int .u64 i] : Array Value)[j]? = some v) => (hc1 w.heap.size j (by simp; omega)).trans (show _ = some v by simp [go_sem, h])
  have R := fun (j : Nat) (v : Value) (h : (#[Value.int .u32 0, .int .u32 0, .int .u32 0, .int .u32 0, .int .u32 0, .int .u32 0, .int .u32 0, .int .u64 0, .int .u64 0] : Array Value)[j]? = some v) => (hc1 (w.heap.size + 2) j (by simp)).trans (show _ = some v by simp [go_sem, h])
  have V := fun (j : Nat) (v : Value) (h : (#[Value.int .u64 t, .int .u64 r, .int .u64 ti, .int .u32 ca] : Array Value)[j]? = some v) => (hc1 (w.heap.size + 1) j (by simp)).trans (show _ = some v by simp [go_sem, h])
  have g0 := G 0 _ rfl
  have r0 := R 0 _ rfl
  have g1 := G 1 _ rfl
  have r1 := R 1 _ rfl
  have g2 := G 2 _ rfl
  have r2 := R 2 _ rfl
  have g3 := G 3 _ rfl
  have r3 := R 3 _ rfl
  have g4 := G 4 _ rfl
  have r4 := R 4 _ rfl
  have g5 := G 5 _ rfl
  have r5 := R 5 _ rfl
  have g6 := G 6 _ rfl
  have r6 := R 6 _ rfl
  have g7 := G 7 _ rfl
  have r7 := R 7 _ rfl
  have g8 := G 8 _ rfl
  have r8 := R 8 _ rfl
  have zg : ∀ j, w1.frozen? ⟨w.heap.size, j, none⟩ = false := fun j => (hf1 w.heap.size j (by simp; omega)).trans (by simp [go_sem])
  have zr : ∀ j, w1.frozen? ⟨w.heap.size + 2, j, none⟩ = false := fun j => (hf1 (w.heap.size + 2) j (by simp)).trans (by simp [go_sem])
  have v0 := V 0 _ rfl
  have v1 := V 1 _ rfl
  clear hc1 hf1 G R V hb1 hz1
  go_wp2
  refine bodyPost_ret (v := fileV f0 f1 f2 f3 f4 f5 f6 c z) (by simp [results, Tryd.results32, go_sem, fileV, *]) rfl ⟨rfl, ?_⟩
  repeat (first | (with_reducible exact HBE.out) | (with_reducible refine bal ?_ _) | (with_reducible refine bset ?_ ?_ _; rotate_left; (simp <;> omega)) | (with_reducible refine Below.drew ?_) | (with_reducible refine bdn ?_ _))
end Go.Proofs.YtnooikjkjcflbabDoor
