/- The walk of the law CsrWrites: it returns true. Conditions: numbers are of their kinds; the listed variable holds what the program's text lays in it. -/
import Derived.Test.YtnooikjkjcflbabDoorCy
import Derived.Test.YtnooikjkjcflbabDoorCu
namespace Go.Proofs.YtnooikjkjcflbabDoor
open Go.RowKit
set_option linter.unusedVariables false
set_option linter.unusedSimpArgs false

/-- A register that there is and that can be written: the program and the reference leave one and the same file. -/
def WrSame (csr x f0 f1 f2 f3 f4 f5 f6 c i t r ti ca : Int) : Prop := ∃ h0 h1 h2 h3 h4 h5 h6 h7 h8 : Int,
  (∀ (w : World), RowsIs w → Calls Tryd.prog 27 #[.agg #[.int .u32 f0, .int .u32 f1, .int .u32 f2, .int .u32 f3, .int .u32 f4, .int .u32 f5, .int .u32 f6, .int .u64 c, .int .u64 i], .int .i64 csr, .int .u32 x, .agg #[.int .u64 t, .int .u64 r, .int .u64 ti, .int .u32 ca]] w fun e w' => e = .returned (.tuple #[fileV h0 h1 h2 h3 h4 h5 h6 h7 h8, .int .i64 0]) ∧ Below w.heap.size w w') ∧
  ∀ (w : World), Calls Tryd.prog 32 #[.agg #[.int .u32 f0, .int .u32 f1, .int .u32 f2, .int .u32 f3, .int .u32 f4, .int .u32 f5, .int .u32 f6, .int .u64 c, .int .u64 i], .int .i64 csr, .int .u32 x, .agg #[.int .u64 t, .int .u64 r, .int .u64 ti, .int .u32 ca]] w fun e w' => e = .returned (fileV h0 h1 h2 h3 h4 h5 h6 h7 h8) ∧ Below w.heap.size w w'
theorem wr_same (k : Nat) (hk : k < 13) (x f0 f1 f2 f3 f4 f5 f6 c i t r ti ca : Int) (hx : 0 ≤ x ∧ x ≤ 4294967295) : WrSame (rowAt k).num x f0 f1 f2 f3 f4 f5 f6 c i t r ti ca := by
  rcases (by omega : k = 0 ∨ k = 1 ∨ k = 2 ∨ k = 3 ∨ k = 4 ∨ k = 5 ∨ k = 6 ∨ k = 7 ∨ k = 8 ∨ k = 9 ∨ k = 10 ∨ k = 11 ∨ k = 12) with rfl | rfl | rfl | rfl | rfl | rfl | rfl | rfl | rfl | rfl | rfl | rfl | rfl
  · exact ⟨_, _, _, _, _, _, _, _, _, fun w hr => cwr_0 x f0 f1 f2 f3 f4 f5 f6 c i t r ti ca w hr, fun w => rwr_0 x f0 f1 f2 f3 f4 f5 f6 c i t r ti ca hx w⟩
  · exact ⟨_, _, _, _, _, _, _, _, _, fun w hr => cwr_1 x f0 f1 f2 f3 f4 f5 f6 c i t r ti ca w hr, fun w => rwr_1 x f0 f1 f2 f3 f4 f5 f6 c i t r ti ca hx w⟩
  · exact ⟨_, _, _, _, _, _, _, _, _, fun w hr => cwr_2 x f0 f1 f2 f3 f4 f5 f6 c i t r ti ca w hr, fun w => rwr_2 x f0 f1 f2 f3 f4 f5 f6 c i t r ti ca hx w⟩
  · exact ⟨_, _, _, _, _, _, _, _, _, fun w hr => cwr_3 x f0 f1 f2 f3 f4 f5 f6 c i t r ti ca w hr, fun w => rwr_3 x f0 f1 f2 f3 f4 f5 f6 c i t r ti ca hx w⟩
  · exact ⟨_, _, _, _, _, _, _, _, _, fun w hr => cwr_4 x f0 f1 f2 f3 f4 f5 f6 c i t r ti ca w hr, fun w => rwr_4 x f0 f1 f2 f3 f4 f5 f6 c i t r ti ca hx w⟩
  · exact ⟨_, _, _, _, _, _, _, _, _, fun w hr => cwr_5 x f0 f1 f2 f3 f4 f5 f6 c i t r ti ca w hr, fun w => rwr_5 x f0 f1 f2 f3 f4 f5 f6 c i t r ti ca hx w⟩
  · exact ⟨_, _, _, _, _, _, _, _, _, fun w hr => cwr_6 x f0 f1 f2 f3 f4 f5 f6 c i t r ti ca w hr, fun w => rwr_6 x f0 f1 f2 f3 f4 f5 f6 c i t r ti ca hx w⟩
  · exact ⟨_, _, _, _, _, _, _, _, _, fun w hr => cwr_7 x f0 f1 f2 f3 f4 f5 f6 c i t r ti ca w hr, fun w => rwr_7 x f0 f1 f2 f3 f4 f5 f6 c i t r ti ca hx w⟩
  · exact ⟨_, _, _, _, _, _, _, _, _, fun w hr => cwr_8 x f0 f1 f2 f3 f4 f5 f6 c i t r ti ca w hr, fun w => rwr_8 x f0 f1 f2 f3 f4 f5 f6 c i t r ti ca hx w⟩
  · exact ⟨_, _, _, _, _, _, _, _, _, fun w hr => cwr_9 x f0 f1 f2 f3 f4 f5 f6 c i t r ti ca hx w hr, fun w => rwr_9 x f0 f1 f2 f3 f4 f5 f6 c i t r ti ca hx w⟩
  · exact ⟨_, _, _, _, _, _, _, _, _, fun w hr => cwr_10 x f0 f1 f2 f3 f4 f5 f6 c i t r ti ca hx w hr, fun w => rwr_10 x f0 f1 f2 f3 f4 f5 f6 c i t r ti ca hx w⟩
  · exact ⟨_, _, _, _, _, _, _, _, _, fun w hr => cwr_11 x f0 f1 f2 f3 f4 f5 f6 c i t r ti ca hx w hr, fun w => rwr_11 x f0 f1 f2 f3 f4 f5 f6 c i t r ti ca hx w⟩
  · exact ⟨_, _, _, _, _, _, _, _, _, fun w hr => cwr_12 x f0 f1 f2 f3 f4 f5 f6 c i t r ti ca hx w hr, fun w => rwr_12 x f0 f1 f2 f3 f4 f5 f6 c i t r ti ca hx w⟩
theorem fast_is : ∀ k, k < 23 → ((rowAt k).num / 1024 % 4 == 3) = decide (13 ≤ k) ∧ 0 ≤ (rowAt k).num ∧ (rowAt k).num ≤ 4095 := by decide +kernel
set_option maxHeartbeats 8000000 in
set_option maxRecDepth 100000 in
theorem cwrites_no (csr x f0 f1 f2 f3 f4 f5 f6 c i t r ti ca : Int) (hn : NoRow (fun r => r.num == csr) 23) (w : World) (hr : RowsIs w) :
    Calls Tryd.prog 6 #[.agg #[.int .u32 f0, .int .u32 f1, .int .u32 f2, .int .u32 f3, .int .u32 f4, .int .u32 f5, .int .u32 f6, .int .u64 c, .int .u64 i], .agg #[.int .i64 csr, .int .u32 x], .agg #[.int .u64 t, .int .u64 r, .int .u64 ti, .int .u32 ca]] w fun e w' =>
      e = .returned (.bool true) ∧ Below w.heap.size w w' := by
  have HR := Lib.hid hr
  have HN := Lib.hid hn
  have HC := Lib.hid (fun v (hr : RowsIs v) => cwr_none csr hn x f0 f1 f2 f3 f4 f5 f6 c i t r ti ca v hr)
  have hbw := bal (bal (bal (Below.refl w.heap.size w) (.cells #[.int .u32 f0, .int .u32 f1, .int .u32 f2, .int .u32 f3, .int .u32 f4, .int .u32 f5, .int .u32 f6, .int .u64 c, .int .u64 i] 47)) (.cells #[.int .i64 csr, .int .u32 x] 49)) (.cells #[.int .u64 t, .int .u64 r, .int .u64 ti, .int .u32 ca] 51)
  have HBW := Lib.hid hbw
  unfold fileV at HC
  clear hr hn hbw
  go_enter Tryd.func6, Tryd.ntmps6
  go_wp2_with fail
  refine (HC.out _ (HR.out.below HBW.out)).mono ?_
  rintro e w1 ⟨rfl, hb1⟩
  have HB1 := Lib.hid (bthen HBW.out hb1)
  have q0 := ((bcf hb1).1 (w.heap.size + 1) 0 (by simp)).trans (show _ = some (.int .i64 csr) by simp [go_sem])
  have z1 : w.heap.size + 1 < w1.heap.size := by have := hb1.size; simp at this; omega
  have z2 : ¬ w.heap.size + 1 = w1.heap.size := by omega
  clear hb1
  go_wp2_with fail
  refine (place_c _ _).mono ?_
  rintro e w2 ⟨⟨v, rfl, hv⟩, hb2⟩
  obtain rfl : v = -1 := by
    rcases hv with ⟨j, hj, hp, _, rfl⟩ | ⟨_, rfl⟩
    · exact absurd (HN.out j hj) (by simp [hp])
    · rfl
  have hc2 := (bcf hb2).1
  have HB2 := Lib.hid (bthen (bal HB1.out _) hb2)
  have hz2 : w1.heap.size < w2.heap.size := by have := hb2.size; simp at this; omega
  clear hb2 hv
  go_wp2_with (go_at_call 29; refine (cawake_c _ (HR.out.below HB2.out)).mono ?_; rintro e w3 ⟨rfl, hb3⟩)
  go_ret
  exact ⟨rfl, bthen HB2.out hb3⟩
set_option maxHeartbeats 8000000 in
set_option maxRecDepth 100000 in
theorem cwrites_fast (k : Nat) (hk : k < 23) (h13 : 13 ≤ k) (x f0 f1 f2 f3 f4 f5 f6 c i t r ti ca : Int) (w : World) (hr : RowsIs w) :
    Calls Tryd.prog 6 #[.agg #[.int .u32 f0, .int .u32 f1, .int .u32 f2, .int .u32 f3, .int .u32 f4, .int .u32 f5, .int .u32 f6, .int .u64 c, .int .u64 i], .agg #[.int .i64 (rowAt k).num, .int .u32 x], .agg #[.int .u64 t, .int .u64 r, .int .u64 ti, .int .u32 ca]] w fun e w' =>
      e = .returned (.bool true) ∧ Below w.heap.size w w' := by
  have HR := Lib.hid hr
  have HC := Lib.hid (fun v (hr : RowsIs v) => cwr_fast k hk h13 x f0 f1 f2 f3 f4 f5 f6 c i t r ti ca v hr)
  have hfi := fast_is k hk
  have HFA := Lib.hid (first_at k hk)
  have HFS := Lib.hid (fun (v : World) => (show ((rowAt k).num / 1024 % 4 == 3) = true by rw [hfi.1]; exact decide_eq_true h13) ▸ rfast_c (rowAt k).num hfi.2.1 hfi.2.2 v)
  have hk0 : ¬ (k : Int) < 0 := by omega
  clear hfi h13 hk
  generalize (rowAt k).num = csr at *
  have hbw := bal (bal (bal (Below.refl w.heap.size w) (.cells #[.int .u32 f0, .int .u32 f1, .int .u32 f2, .int .u32 f3, .int .u32 f4, .int .u32 f5, .int .u32 f6, .int .u64 c, .int .u64 i] 47)) (.cells #[.int .i64 csr, .int .u32 x] 49)) (.cells #[.int .u64 t, .int .u64 r, .int .u64 ti, .int .u32 ca] 51)
  have HBW := Lib.hid hbw
  unfold fileV at HC
  clear hr hbw
  go_enter Tryd.func6, Tryd.ntmps6
  go_wp2_with fail
  refine (HC.out _ (HR.out.below HBW.out)).mono ?_
  rintro e w1 ⟨rfl, hb1⟩
  have HB1 := Lib.hid (bthen HBW.out hb1)
  have q0 := ((bcf hb1).1 (w.heap.size + 1) 0 (by simp)).trans (show _ = some (.int .i64 csr) by simp [go_sem])
  have z1 : w.heap.size + 1 < w1.heap.size := by have := hb1.size; simp at this; omega
  have z2 : ¬ w.heap.size + 1 = w1.heap.size := by omega
  clear hb1
  go_wp2_with fail
  refine (place_c _ _).mono ?_
  rintro e w2 ⟨⟨v, rfl, hv⟩, hb2⟩
  obtain rfl := hv.unique HFA.out
  have hc2 := (bcf hb2).1
  have HB2 := Lib.hid (bthen (bal HB1.out _) hb2)
  have hz2 : w1.heap.size < w2.heap.size := by have := hb2.size; simp at this; omega
  have z3 : w.heap.size + 1 < w1.heap.size + 1 := by omega
  clear hb2 hv
  go_wp2_with (first | (go_at_call 30; refine (HFS.out _).mono ?_; rintro e w' ⟨rfl, rfl⟩) | (go_at_call 29; refine (cawake_c _ (HR.out.below HB2.out)).mono ?_; rintro e w3 ⟨rfl, hb3⟩))
  go_ret
  exact ⟨rfl, bthen HB2.out hb3⟩
set_option maxHeartbeats 8000000 in
set_option maxRecDepth 100000 in
theorem cwrites_ok (k : Nat) (hk : k < 13) (x f0 f1 f2 f3 f4 f5 f6 c i t r ti ca : Int) (hx : 0 ≤ x ∧ x ≤ 4294967295) (w : World) (hr : RowsIs w) :
    Calls Tryd.prog 6 #[.agg #[.int .u32 f0, .int .u32 f1, .int .u32 f2, .int .u32 f3, .int .u32 f4, .int .u32 f5, .int .u32 f6, .int .u64 c, .int .u64 i], .agg #[.int .i64 (rowAt k).num, .int .u32 x], .agg #[.int .u64 t, .int .u64 r, .int .u64 ti, .int .u32 ca]] w fun e w' =>
      e = .returned (.bool true) ∧ Below w.heap.size w w' := by
  have HR := Lib.hid hr
  obtain ⟨h0, h1, h2, h3, h4, h5, h6, h7, h8, hcw, hrw⟩ := wr_same k hk x f0 f1 f2 f3 f4 f5 f6 c i t r ti ca hx
  have HC := Lib.hid hcw
  have HW := Lib.hid hrw
  have hfi := fast_is k (by omega)
  have HFA := Lib.hid (first_at k (by omega))
  have HFS := Lib.hid (fun (v : World) => (show ((rowAt k).num / 1024 % 4 == 3) = false by rw [hfi.1]; exact decide_eq_false (by omega)) ▸ rfast_c (rowAt k).num hfi.2.1 hfi.2.2 v)
  have hk0 : ¬ (k : Int) < 0 := by omega
  clear hfi hk hcw hrw hx
  generalize (rowAt k).num = csr at *
  have hbw := bal (bal (bal (Below.refl w.heap.size w) (.cells #[.int .u32 f0, .int .u32 f1, .int .u32 f2, .int .u32 f3, .int .u32 f4, .int .u32 f5, .int .u32 f6, .int .u64 c, .int .u64 i] 47)) (.cells #[.int .i64 csr, .int .u32 x] 49)) (.cells #[.int .u64 t, .int .u64 r, .int .u64 ti, .int .u32 ca] 51)
  have HBW := Lib.hid hbw
  unfold fileV at HC HW
  clear hr hbw
  go_enter Tryd.func6, Tryd.ntmps6
  go_wp2_with fail
  refine (HC.out _ (HR.out.below HBW.out)).mono ?_
  rintro e w1 ⟨rfl, hb1⟩
  have HB1 := Lib.hid (bthen HBW.out hb1)
  have hc1 := (bcf hb1).1
  have hz1 := hb1.size
  simp only [World.size_alloc] at hz1
  have q0 := (hc1 (w.heap.size + 1) 0 (by simp)).trans (show _ = some (.int .i64 csr) by simp [go_sem])
  have z1 : w.heap.size + 1 < w1.heap.size := by omega
  have z2 : ¬ w.heap.size + 1 = w1.heap.size := by omega
  clear hb1
  go_wp2_with fail
  refine (place_c _ _).mono ?_
  rintro e w2 ⟨⟨v, rfl, hv⟩, hb2⟩
  obtain rfl := hv.unique HFA.out
  have hc2 := (bcf hb2).1
  have HB2 := Lib.hid (bthen (bal HB1.out _) hb2)
  have hz2 : w1.heap.size < w2.heap.size := by have := hb2.size; simp at this; omega
  have z3 : w.heap.size + 1 < w1.heap.size + 1 := by omega
  have n0 : ¬ w.heap.size = w1.heap.size := by omega
  have n2 : ¬ w.heap.size + 2 = w1.heap.size := by omega
  have m0 : w.heap.size < w1.heap.size := by omega
  have m2 : w.heap.size + 2 < w1.heap.size := by omega
  have E := fun (j : Nat) (v : Value) (h : (#[Value.int .u32 h0, .int .u32 h1, .int .u32 h2, .int .u32 h3, .int .u32 h4, .int .u32 h5, .int .u32 h6, .int .u64 h7, .int .u64 h8] : Array Value)[j]? = some v) => (hc2 w1.heap.size j (by simp)).trans (show _ = some v by simp [go_sem, h])
  have G := fun (j : Nat) (v : Value) (h : (#[Value.int .u32 f0, .int .u32 f1, .int .u32 f2, .int .u32 f3, .int .u32 f4, .int .u32 f5, .int .u32 f6, .int .u64 c, .int .u64 i] : Array Value)[j]? = some v) => (hc2 w.heap.size j (by simp only [World.size_alloc]; omega)).trans (show _ = some v by simp [go_sem, hc1, n0, m0, h])
  have X := fun (j : Nat) (v : Value) (h : (#[Value.int .i64 csr, .int .u32 x] : Array Value)[j]? = some v) => (hc2 (w.heap.size + 1) j (by simp only [World.size_alloc]; omega)).trans (show _ = some v by simp [go_sem, hc1, z2, z1, h])
  have V := fun (j : Nat) (v : Value) (h : (#[Value.int .u64 t, .int .u64 r, .int .u64 ti, .int .u32 ca] : Array Value)[j]? = some v) => (hc2 (w.heap.size + 2) j (by simp only [World.size_alloc]; omega)).trans (show _ = some v by simp [go_sem, hc1, n2, m2, h])
  have e0 := E 0 _ rfl
  have g0 := G 0 _ rfl
  have e1 := E 1 _ rfl
  have g1 := G 1 _ rfl
  have e2 := E 2 _ rfl
  have g2 := G 2 _ rfl
  have e3 := E 3 _ rfl
  have g3 := G 3 _ rfl
  have e4 := E 4 _ rfl
  have g4 := G 4 _ rfl
  have e5 := E 5 _ rfl
  have g5 := G 5 _ rfl
  have e6 := E 6 _ rfl
  have g6 := G 6 _ rfl
  have e7 := E 7 _ rfl
  have g7 := G 7 _ rfl
  have e8 := E 8 _ rfl
  have g8 := G 8 _ rfl
  have x0 := X 0 _ rfl
  have x1 := X 1 _ rfl
  have v0 := V 0 _ rfl
  have v1 := V 1 _ rfl
  have v2 := V 2 _ rfl
  have v3 := V 3 _ rfl
  clear hb2 hv E G X V hc1 hc2 q0 hz1
  go_wp2_with (go_at_call 30; refine (HFS.out _).mono ?_; rintro e w' ⟨rfl, rfl⟩)
  refine wp_region_below (by kernel_rfl) (by kernel_rfl) ?_
  intro S _ F hF hS
  have e0 := fcell hF e0
  have g0 := fcell hF g0
  have e1 := fcell hF e1
  have g1 := fcell hF g1
  have e2 := fcell hF e2
  have g2 := fcell hF g2
  have e3 := fcell hF e3
  have g3 := fcell hF g3
  have e4 := fcell hF e4
  have g4 := fcell hF g4
  have e5 := fcell hF e5
  have g5 := fcell hF g5
  have e6 := fcell hF e6
  have g6 := fcell hF g6
  have e7 := fcell hF e7
  have g7 := fcell hF g7
  have e8 := fcell hF e8
  have g8 := fcell hF g8
  have x0 := fcell hF x0
  have x1 := fcell hF x1
  have v0 := fcell hF v0
  have v1 := fcell hF v1
  have v2 := fcell hF v2
  have v3 := fcell hF v3
  have HRF : ∀ s, Hid (RowsIs (F s)) := fun s => Lib.hid (HR.out.below (bthen HB2.out (hF s)))
  repeat (go_big_quiet_step (first | (go_at_call 31; exact qbelow hS (of_c _ _ _ _ _ _ _ _ _ _)) | (go_at_call 33; exact qbelow hS (in_c _ _ _ _ _)) | (go_at_call 32; exact qbelow hS (HW.out _)) | (go_at_call 29; exact qbelow hS (cawake_c _ (HRF _).out))))
  refine wpQuiet_nil ?_
  intro w3 hw3
  obtain ⟨s3, rfl⟩ := hw3
  have hb3 := bthen HB2.out (hF s3)
  clear e0 g0 e1 g1 e2 g2 e3 g3 e4 g4 e5 g5 e6 g6 e7 g7 e8 g8 x0 x1 v0 v1 v2 v3 hF hS HRF
  generalize F s3 = w3 at *
  go_wp2
  go_ret
  exact ⟨rfl, hb3⟩
theorem cwrites_w (csr x f0 f1 f2 f3 f4 f5 f6 c i t r ti ca : Int) (hx : 0 ≤ x ∧ x ≤ 4294967295) (w : World) (hr : RowsIs w) :
    Calls Tryd.prog 6 #[.agg #[.int .u32 f0, .int .u32 f1, .int .u32 f2, .int .u32 f3, .int .u32 f4, .int .u32 f5, .int .u32 f6, .int .u64 c, .int .u64 i], .agg #[.int .i64 csr, .int .u32 x], .agg #[.int .u64 t, .int .u64 r, .int .u64 ti, .int .u32 ca]] w fun e w' =>
      e = .returned (.bool true) ∧ Below w.heap.size w w' := by
  by_cases hk : ∃ k, k < 23 ∧ (rowAt k).num = csr
  · obtain ⟨k, hk, rfl⟩ := hk
    by_cases h13 : 13 ≤ k
    · exact cwrites_fast k hk h13 x f0 f1 f2 f3 f4 f5 f6 c i t r ti ca w hr
    · exact cwrites_ok k (by omega) x f0 f1 f2 f3 f4 f5 f6 c i t r ti ca hx w hr
  · exact cwrites_no csr x f0 f1 f2 f3 f4 f5 f6 c i t r ti ca (fun j hj => by
      simp only [beq_eq_false_iff_ne]
      exact fun h => hk ⟨j, hj, h⟩) w hr
end Go.Proofs.YtnooikjkjcflbabDoor
