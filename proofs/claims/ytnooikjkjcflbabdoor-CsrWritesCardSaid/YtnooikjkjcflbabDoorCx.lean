/- Contract of csr's Write, by kinds of registers. Conditions: numbers are of their kinds; the listed variable holds what the program's text lays in it. -/
import Derived.Test.YtnooikjkjcflbabDoorCw
namespace Go.Proofs.YtnooikjkjcflbabDoor
open Go.RowKit
set_option linter.unusedVariables false
set_option linter.unusedSimpArgs false

theorem find_fast (k : Nat) (hk : k < 23) {v : Value} (h : FindIs (rowAt k).num v) : ∃ s ka fi, v = .tuple #[.agg #[.string s, .int .u32 ka, .int .u32 fi, .bool (fastB (rowAt k).num)], .int .i64 0] := by
  rcases h with ⟨j, hj, hp, hn, rfl⟩ | ⟨hn, rfl⟩
  · exact ⟨_, _, _, rfl⟩
  · exact absurd (hn k hk) (by simp)
theorem legal_at (k : Nat) (hk : k < 23) (x : Int) {v : Value} (h : LegalIs (rowAt k).num x v) : v = .tuple #[.int .u32 (legV k x), .int .i64 0] := by
  rcases h with ⟨j, hj, hp, hn, rfl⟩ | ⟨hn, rfl⟩
  · have hf : FirstRow (fun r => r.num == (rowAt k).num) j := .inl ⟨j, hj, by simpa using hp, hn, rfl⟩
    have := hf.unique (first_at k hk)
    obtain rfl : j = k := by omega
    rfl
  · exact absurd (hn k hk) (by simp)
theorem fast_dec : (∀ k, k < 13 → fastB (rowAt k).num = false) ∧ ∀ k, k < 23 → 13 ≤ k → fastB (rowAt k).num = true := by decide +kernel
def fileV (f0 f1 f2 f3 f4 f5 f6 c i : Int) : Value := .agg #[.int .u32 f0, .int .u32 f1, .int .u32 f2, .int .u32 f3, .int .u32 f4, .int .u32 f5, .int .u32 f6, .int .u64 c, .int .u64 i]
def keptAt (k : Nat) : Int := if k = 0 then 0 else if k = 2 then 1 else if k = 3 then 2 else if k = 4 then 3 else if k = 5 then 4 else if k = 6 then 5 else if k = 7 then 6 else 7
def setF (j n x f : Int) : Int := if j = n then x else f
set_option maxHeartbeats 8000000 in
set_option maxRecDepth 100000 in
theorem cwr_fast (k : Nat) (hk : k < 23) (h13 : 13 ≤ k) (x f0 f1 f2 f3 f4 f5 f6 c i t r ti ca : Int) (w : World) (hr : RowsIs w) :
    Calls Tryd.prog 27 #[.agg #[.int .u32 f0, .int .u32 f1, .int .u32 f2, .int .u32 f3, .int .u32 f4, .int .u32 f5, .int .u32 f6, .int .u64 c, .int .u64 i], .int .i64 (rowAt k).num, .int .u32 x, .agg #[.int .u64 t, .int .u64 r, .int .u64 ti, .int .u32 ca]] w fun e w' =>
      e = .returned (.tuple #[fileV 0 0 0 0 0 0 0 0 0, .int .i64 9]) ∧ Below w.heap.size w w' := by
  have HR := Lib.hid hr
  have HFA := Lib.hid (fun (v : Value) (h : FindIs (rowAt k).num v) => (fast_dec.2 k hk h13) ▸ find_fast k hk h)
  have hbw := bal (bal (bal (bal (bal (Below.refl w.heap.size w) (.cells #[.int .u32 f0, .int .u32 f1, .int .u32 f2, .int .u32 f3, .int .u32 f4, .int .u32 f5, .int .u32 f6, .int .u64 c, .int .u64 i] 47)) (.cells #[.int .i64 (rowAt k).num] 3)) (.cells #[.int .u32 x] 22)) (.cells #[.int .u64 t, .int .u64 r, .int .u64 ti, .int .u32 ca] 51)) (.cells #[.int .u32 0, .int .u32 0, .int .u32 0, .int .u32 0, .int .u32 0, .int .u32 0, .int .u32 0, .int .u64 0, .int .u64 0] 47)
  have HBW := Lib.hid hbw
  clear hr hbw hk h13
  generalize (rowAt k).num = csr at *
  go_enter Tryd.func27, Tryd.ntmps27
  go_wp2_with fail
  refine (find_c _ _ (HR.out.below HBW.out)).mono ?_
  rintro e w1 ⟨⟨v, rfl, hv⟩, hb1⟩
  obtain ⟨s, ka, fi, rfl⟩ := HFA.out _ hv
  clear HFA hv
  obtain ⟨hc1, hf1⟩ := bcf hb1
  have HB1 := Lib.hid (bthen HBW.out hb1)
  have hz1 := hb1.size
  simp only [World.size_alloc] at hz1
  have n4 : ¬ w.heap.size + 4 = w1.heap.size := by omega
  have m4 : w.heap.size + 4 < w1.heap.size := by omega
  have m0 : w.heap.size < w1.heap.size := by omega
  clear hb1
  go_wp2
  refine bodyPost_ret (v := .tuple #[fileV 0 0 0 0 0 0 0 0 0, .int .i64 9]) (by simp [results, Tryd.results27, go_sem, fileV, hc1, hf1, n4, m4]) rfl ⟨rfl, ?_⟩
  repeat (first | (with_reducible exact HB1.out) | (with_reducible refine bal ?_ _) | (with_reducible refine bset ?_ ?_ _; rotate_left; (simp <;> omega)) | (with_reducible refine Below.drew ?_) | (with_reducible refine bdn ?_ _))
set_option maxHeartbeats 8000000 in
set_option maxRecDepth 100000 in
theorem cwr_none (csr : Int) (hn : NoRow (fun r => r.num == csr) 23) (x f0 f1 f2 f3 f4 f5 f6 c i t r ti ca : Int) (w : World) (hr : RowsIs w) :
    Calls Tryd.prog 27 #[.agg #[.int .u32 f0, .int .u32 f1, .int .u32 f2, .int .u32 f3, .int .u32 f4, .int .u32 f5, .int .u32 f6, .int .u64 c, .int .u64 i], .int .i64 csr, .int .u32 x, .agg #[.int .u64 t, .int .u64 r, .int .u64 ti, .int .u32 ca]] w fun e w' =>
      e = .returned (.tuple #[fileV 0 0 0 0 0 0 0 0 0, .int .i64 8]) ∧ Below w.heap.size w w' := by
  have HR := Lib.hid hr
  have HN := Lib.hid hn
  have hbw := bal (bal (bal (bal (bal (Below.refl w.heap.size w) (.cells #[.int .u32 f0, .int .u32 f1, .int .u32 f2, .int .u32 f3, .int .u32 f4, .int .u32 f5, .int .u32 f6, .int .u64 c, .int .u64 i] 47)) (.cells #[.int .i64 csr] 3)) (.cells #[.int .u32 x] 22)) (.cells #[.int .u64 t, .int .u64 r, .int .u64 ti, .int .u32 ca] 51)) (.cells #[.int .u32 0, .int .u32 0, .int .u32 0, .int .u32 0, .int .u32 0, .int .u32 0, .int .u32 0, .int .u64 0, .int .u64 0] 47)
  have HBW := Lib.hid hbw
  clear hr hbw hn
  go_enter Tryd.func27, Tryd.ntmps27
  go_wp2_with fail
  refine (find_c _ _ (HR.out.below HBW.out)).mono ?_
  rintro e w1 ⟨⟨v, rfl, hv⟩, hb1⟩
  obtain rfl : v = .tuple #[.agg #[.string ⟨#[]⟩, .int .u32 0, .int .u32 0, .bool false], .int .i64 8] := by
    rcases hv with ⟨j, hj, hp, _, rfl⟩ | ⟨_, rfl⟩
    · exact absurd (HN.out j hj) (by simp [hp])
    · rfl
  clear hv
  obtain ⟨hc1, hf1⟩ := bcf hb1
  have HB1 := Lib.hid (bthen HBW.out hb1)
  have hz1 := hb1.size
  simp only [World.size_alloc] at hz1
  have n4 : ¬ w.heap.size + 4 = w1.heap.size := by omega
  have m4 : w.heap.size + 4 < w1.heap.size := by omega
  have m0 : w.heap.size < w1.heap.size := by omega
  clear hb1
  go_wp2
  refine bodyPost_ret (v := .tuple #[fileV 0 0 0 0 0 0 0 0 0, .int .i64 8]) (by simp [results, Tryd.results27, go_sem, fileV, hc1, hf1, n4, m4]) rfl ⟨rfl, ?_⟩
  repeat (first | (with_reducible exact HB1.out) | (with_reducible refine bal ?_ _) | (with_reducible refine bset ?_ ?_ _; rotate_left; (simp <;> omega)) | (with_reducible refine Below.drew ?_) | (with_reducible refine bdn ?_ _))

set_option maxHeartbeats 16000000 in
set_option maxRecDepth 100000 in
theorem cwr_0 (x f0 f1 f2 f3 f4 f5 f6 c i t r ti ca : Int) (w : World) (hr : RowsIs w) :
    Calls Tryd.prog 27 #[.agg #[.int .u32 f0, .int .u32 f1, .int .u32 f2, .int .u32 f3, .int .u32 f4, .int .u32 f5, .int .u32 f6, .int .u64 c, .int .u64 i], .int .i64 768, .int .u32 x, .agg #[.int .u64 t, .int .u64 r, .int .u64 ti, .int .u32 ca]] w fun e w' =>
      e = .returned (.tuple #[fileV (legV 0 x) f1 f2 f3 f4 f5 f6 c i, .int .i64 0]) ∧ Below w.heap.size w w' := by
  have HR := Lib.hid hr
  have HV := Lib.hid (fun (v : Value) (h' : FindIs 768 v) => (fast_dec.1 0 (by decide)) ▸ find_fast 0 (by decide) h')
  have HW := Lib.hid (fun (v : Value) (h' : LegalIs 768 x v) => legal_at 0 (by decide) x h')
  generalize legV 0 x = y at *
  have hbw := bal (bal (bal (bal (bal (Below.refl w.heap.size w) (.cells #[.int .u32 f0, .int .u32 f1, .int .u32 f2, .int .u32 f3, .int .u32 f4, .int .u32 f5, .int .u32 f6, .int .u64 c, .int .u64 i] 47)) (.cells #[.int .i64 768] 3)) (.cells #[.int .u32 x] 22)) (.cells #[.int .u64 t, .int .u64 r, .int .u64 ti, .int .u32 ca] 51)) (.cells #[.int .u32 0, .int .u32 0, .int .u32 0, .int .u32 0, .int .u32 0, .int .u32 0, .int .u32 0, .int .u64 0, .int .u64 0] 47)
  have HBW := Lib.hid hbw
  clear hr hbw
  go_enter Tryd.func27, Tryd.ntmps27
  go_wp2_with fail
  refine (find_c _ _ (HR.out.below HBW.out)).mono ?_
  rintro e w1 ⟨⟨v, rfl, hv⟩, hb1⟩
  obtain ⟨s, ka, fi, rfl⟩ := HV.out _ hv
  clear HV hv
  obtain ⟨hc1, hf1⟩ := bcf hb1
  have HB1 := Lib.hid (bthen HBW.out hb1)
  have hz1 := hb1.size
  simp only [World.size_alloc] at hz1
  have n0 : ¬ w.heap.size = w1.heap.size := by omega
  have n1 : ¬ w.heap.size + 1 = w1.heap.size := by omega
  have n2 : ¬ w.heap.size + 2 = w1.heap.size := by omega
  have n3 : ¬ w.heap.size + 3 = w1.heap.size := by omega
  have n4 : ¬ w.heap.size + 4 = w1.heap.size := by omega
  have m0 : w.heap.size < w1.heap.size := by omega
  have m1 : w.heap.size + 1 < w1.heap.size := by omega
  have m2 : w.heap.size + 2 < w1.heap.size := by omega
  have m3 : w.heap.size + 3 < w1.heap.size := by omega
  have m4 : w.heap.size + 4 < w1.heap.size := by omega
  clear hb1 hz1
  go_wp2_with (go_at_call 57; refine (kept_c _ _ _).mono ?_; rintro e w' ⟨rfl, rfl⟩; simp only [kept_nums])
  refine (legal_c _ _ _ (HR.out.below (bal HB1.out _))).mono ?_
  rintro e w2 ⟨⟨v, rfl, hv⟩, hb2⟩
  obtain rfl := HW.out _ hv
  clear HW hv
  obtain ⟨hc2, hf2⟩ := bcf hb2
  have HBE := Lib.hid (bthen (bal HB1.out _) hb2)
  have hz2 := hb2.size
  simp only [World.size_alloc] at hz2 hc2 hf2
  have p0 : ¬ w.heap.size = w2.heap.size := by omega
  have p4 : ¬ w.heap.size + 4 = w2.heap.size := by omega
  have l5 : w.heap.size < w1.heap.size + 1 := by omega
  have l6 : w.heap.size + 4 < w1.heap.size + 1 := by omega
  have l0 : w.heap.size < w2.heap.size := by omega
  have l4 : w.heap.size + 4 < w2.heap.size := by omega
  clear hb2 hz2
  have G := fun (j : Nat) (v : Value) (h : (#[Value.int .u32 f0, .int .u32 f1, .int .u32 f2, .int .u32 f3, .int .u32 f4, .int .u32 f5, .int .u32 f6, .int .u64 c, .int .u64 i] : Array Value)[j]? = some v) => (hc2 w.heap.size j l5).trans (show _ = some v by simp [go_sem, hc1, n0, m0, h])
  have R := fun (j : Nat) (v : Value) (h : (#[Value.int .u32 0, .int .u32 0, .int .u32 0, .int .u32 0, .int .u32 0, .int .u32 0, .int .u32 0, .int .u64 0, .int .u64 0] : Array Value)[j]? = some v) => (hc2 (w.heap.size + 4) j l6).trans (show _ = some v by simp [go_sem, hc1, n4, m4, h])
  have g0 := G 0 _ rfl
  have r0 := R 0 _ rfl
  have g1 := G 1 _ rfl
  have r1 := R 1 _ rfl
  have g2 := G 2 _ rfl
  have r2 := R 2 _ rfl
  have g3 := G 3 _ rfl
  have r3 := R 3 _ rfl
  have g4 := G 4 _ rfl
  have r4 := R 4 _ rfl
  have g5 := G 5 _ rfl
  have r5 := R 5 _ rfl
  have g6 := G 6 _ rfl
  have r6 := R 6 _ rfl
  have g7 := G 7 _ rfl
  have r7 := R 7 _ rfl
  have g8 := G 8 _ rfl
  have r8 := R 8 _ rfl
  have zg : ∀ j, w2.frozen? ⟨w.heap.size, j, none⟩ = false := fun j => (hf2 w.heap.size j l5).trans (by simp [go_sem, hf1, n0, m0])
  have zr : ∀ j, w2.frozen? ⟨w.heap.size + 4, j, none⟩ = false := fun j => (hf2 (w.heap.size + 4) j l6).trans (by simp [go_sem, hf1, n4, m4])
  have V := fun (j : Nat) (v : Value) (h : (#[Value.int .u64 t, .int .u64 r, .int .u64 ti, .int .u32 ca] : Array Value)[j]? = some v) => (hc2 (w.heap.size + 3) j (by omega)).trans (show _ = some v by simp [go_sem, hc1, n3, m3, h])
  have v0 := V 0 _ rfl
  have v1 := V 1 _ rfl
  have x0 := (hc2 (w.heap.size + 1) 0 (by omega)).trans (show _ = some (.int .i64 768) by simp [go_sem, hc1, n1, m1])
  have x1 := (hc2 (w.heap.size + 2) 0 (by omega)).trans (show _ = some (.int .u32 x) by simp [go_sem, hc1, n2, m2])
  clear hc1 hf1 hc2 hf2 G R V
  go_wp2
  refine bodyPost_ret (v := .tuple #[fileV y f1 f2 f3 f4 f5 f6 c i, .int .i64 0]) (by simp [results, Tryd.results27, go_sem, fileV, *]) rfl ⟨rfl, ?_⟩
  repeat (first | (with_reducible exact HBE.out) | (with_reducible refine bal ?_ _) | (with_reducible refine bset ?_ ?_ _; rotate_left; (simp <;> omega)) | (with_reducible refine Below.drew ?_) | (with_reducible refine bdn ?_ _))
set_option maxHeartbeats 16000000 in
set_option maxRecDepth 100000 in
theorem cwr_1 (x f0 f1 f2 f3 f4 f5 f6 c i t r ti ca : Int) (w : World) (hr : RowsIs w) :
    Calls Tryd.prog 27 #[.agg #[.int .u32 f0, .int .u32 f1, .int .u32 f2, .int .u32 f3, .int .u32 f4, .int .u32 f5, .int .u32 f6, .int .u64 c, .int .u64 i], .int .i64 769, .int .u32 x, .agg #[.int .u64 t, .int .u64 r, .int .u64 ti, .int .u32 ca]] w fun e w' =>
      e = .returned (.tuple #[fileV f0 f1 f2 f3 f4 f5 f6 c i, .int .i64 0]) ∧ Below w.heap.size w w' := by
  have HR := Lib.hid hr
  have HV := Lib.hid (fun (v : Value) (h' : FindIs 769 v) => (fast_dec.1 1 (by decide)) ▸ find_fast 1 (by decide) h')
  have hbw := bal (bal (bal (bal (bal (Below.refl w.heap.size w) (.cells #[.int .u32 f0, .int .u32 f1, .int .u32 f2, .int .u32 f3, .int .u32 f4, .int .u32 f5, .int .u32 f6, .int .u64 c, .int .u64 i] 47)) (.cells #[.int .i64 769] 3)) (.cells #[.int .u32 x] 22)) (.cells #[.int .u64 t, .int .u64 r, .int .u64 ti, .int .u32 ca] 51)) (.cells #[.int .u32 0, .int .u32 0, .int .u32 0, .int .u32 0, .int .u32 0, .int .u32 0, .int .u32 0, .int .u64 0, .int .u64 0] 47)
  have HBW := Lib.hid hbw
  clear hr hbw
  go_enter Tryd.func27, Tryd.ntmps27
  go_wp2_with fail
  refine (find_c _ _ (HR.out.below HBW.out)).mono ?_
  rintro e w1 ⟨⟨v, rfl, hv⟩, hb1⟩
  obtain ⟨s, ka, fi, rfl⟩ := HV.out _ hv
  clear HV hv
  obtain ⟨hc1, hf1⟩ := bcf hb1
  have HB1 := Lib.hid (bthen HBW.out hb1)
  have hz1 := hb1.size
  simp only [World.size_alloc] at hz1
  have n0 : ¬ w.heap.size = w1.heap.size := by omega
  have n1 : ¬ w.heap.size + 1 = w1.heap.size := by omega
  have n2 : ¬ w.heap.size + 2 = w1.heap.size := by omega
  have n3 : ¬ w.heap.size + 3 = w1.heap.size := by omega
  have n4 : ¬ w.heap.size + 4 = w1.heap.size := by omega
  have m0 : w.heap.size < w1.heap.size := by omega
  have m1 : w.heap.size + 1 < w1.heap.size := by omega
  have m2 : w.heap.size + 2 < w1.heap.size := by omega
  have m3 : w.heap.size + 3 < w1.heap.size := by omega
  have m4 : w.heap.size + 4 < w1.heap.size := by omega
  clear hb1 hz1
  go_wp2_with (go_at_call 57; refine (kept_c _ _ _).mono ?_; rintro e w' ⟨rfl, rfl⟩; simp only [kept_nums])
  refine (counted_c w.heap.size _ c i t r ti ca _ (by simp [go_sem, hc1, n0, m0]) (by simp [go_sem, hc1, n0, m0])).mono ?_
  rintro e w2 ⟨rfl, hb2⟩
  simp only [an_nums, cnt_nums, cntb_nums]
  obtain ⟨hc2, hf2⟩ := bcf hb2
  have HBE := Lib.hid (bthen (bal HB1.out _) hb2)
  have hz2 := hb2.size
  simp only [World.size_alloc] at hz2 hc2 hf2
  have p0 : ¬ w.heap.size = w2.heap.size := by omega
  have p4 : ¬ w.heap.size + 4 = w2.heap.size := by omega
  have l5 : w.heap.size < w1.heap.size + 1 := by omega
  have l6 : w.heap.size + 4 < w1.heap.size + 1 := by omega
  have l7 : w.heap.size + 1 < w1.heap.size + 1 := by omega
  have l8 : w.heap.size + 2 < w1.heap.size + 1 := by omega
  have l9 : w.heap.size + 3 < w1.heap.size + 1 := by omega
  have l0 : w.heap.size < w2.heap.size := by omega
  have l1 : w.heap.size + 1 < w2.heap.size := by omega
  have l2 : w.heap.size + 2 < w2.heap.size := by omega
  have l3 : w.heap.size + 3 < w2.heap.size := by omega
  have l4 : w.heap.size + 4 < w2.heap.size := by omega
  clear hb2 hz2
  have G := fun (j : Nat) (v : Value) (h : (#[Value.int .u32 f0, .int .u32 f1, .int .u32 f2, .int .u32 f3, .int .u32 f4, .int .u32 f5, .int .u32 f6, .int .u64 c, .int .u64 i] : Array Value)[j]? = some v) => (hc2 w.heap.size j l5).trans (show _ = some v by simp [go_sem, hc1, n0, m0, h])
  have R := fun (j : Nat) (v : Value) (h : (#[Value.int .u32 0, .int .u32 0, .int .u32 0, .int .u32 0, .int .u32 0, .int .u32 0, .int .u32 0, .int .u64 0, .int .u64 0] : Array Value)[j]? = some v) => (hc2 (w.heap.size + 4) j l6).trans (show _ = some v by simp [go_sem, hc1, n4, m4, h])
  have g0 := G 0 _ rfl
  have r0 := R 0 _ rfl
  have g1 := G 1 _ rfl
  have r1 := R 1 _ rfl
  have g2 := G 2 _ rfl
  have r2 := R 2 _ rfl
  have g3 := G 3 _ rfl
  have r3 := R 3 _ rfl
  have g4 := G 4 _ rfl
  have r4 := R 4 _ rfl
  have g5 := G 5 _ rfl
  have r5 := R 5 _ rfl
  have g6 := G 6 _ rfl
  have r6 := R 6 _ rfl
  have g7 := G 7 _ rfl
  have r7 := R 7 _ rfl
  have g8 := G 8 _ rfl
  have r8 := R 8 _ rfl
  have zg : ∀ j, w2.frozen? ⟨w.heap.size, j, none⟩ = false := fun j => (hf2 w.heap.size j l5).trans (by simp [go_sem, hf1, n0, m0])
  have zr : ∀ j, w2.frozen? ⟨w.heap.size + 4, j, none⟩ = false := fun j => (hf2 (w.heap.size + 4) j l6).trans (by simp [go_sem, hf1, n4, m4])
  have V := fun (j : Nat) (v : Value) (h : (#[Value.int .u64 t, .int .u64 r, .int .u64 ti, .int .u32 ca] : Array Value)[j]? = some v) => (hc2 (w.heap.size + 3) j (by omega)).trans (show _ = some v by simp [go_sem, hc1, n3, m3, h])
  have v0 := V 0 _ rfl
  have v1 := V 1 _ rfl
  have x0 := (hc2 (w.heap.size + 1) 0 (by omega)).trans (show _ = some (.int .i64 769) by simp [go_sem, hc1, n1, m1])
  have x1 := (hc2 (w.heap.size + 2) 0 (by omega)).trans (show _ = some (.int .u32 x) by simp [go_sem, hc1, n2, m2])
  clear hc1 hf1 hc2 hf2 G R V
  go_wp2
  refine bodyPost_ret (v := .tuple #[fileV f0 f1 f2 f3 f4 f5 f6 c i, .int .i64 0]) (by simp [results, Tryd.results27, go_sem, fileV, *]) rfl ⟨rfl, ?_⟩
  repeat (first | (with_reducible exact HBE.out) | (with_reducible refine bal ?_ _) | (with_reducible refine bset ?_ ?_ _; rotate_left; (simp <;> omega)) | (with_reducible refine Below.drew ?_) | (with_reducible refine bdn ?_ _))
set_option maxHeartbeats 16000000 in
set_option maxRecDepth 100000 in
theorem cwr_2 (x f0 f1 f2 f3 f4 f5 f6 c i t r ti ca : Int) (w : World) (hr : RowsIs w) :
    Calls Tryd.prog 27 #[.agg #[.int .u32 f0, .int .u32 f1, .int .u32 f2, .int .u32 f3, .int .u32 f4, .int .u32 f5, .int .u32 f6, .int .u64 c, .int .u64 i], .int .i64 772, .int .u32 x, .agg #[.int .u64 t, .int .u64 r, .int .u64 ti, .int .u32 ca]] w fun e w' =>
      e = .returned (.tuple #[fileV f0 (legV 2 x) f2 f3 f4 f5 f6 c i, .int .i64 0]) ∧ Below w.heap.size w w' := by
  have HR := Lib.hid hr
  have HV := Lib.hid (fun (v : Value) (h' : FindIs 772 v) => (fast_dec.1 2 (by decide)) ▸ find_fast 2 (by decide) h')
  have HW := Lib.hid (fun (v : Value) (h' : LegalIs 772 x v) => legal_at 2 (by decide) x h')
  generalize legV 2 x = y at *
  have hbw := bal (bal (bal (bal (bal (Below.refl w.heap.size w) (.cells #[.int .u32 f0, .int .u32 f1, .int .u32 f2, .int .u32 f3, .int .u32 f4, .int .u32 f5, .int .u32 f6, .int .u64 c, .int .u64 i] 47)) (.cells #[.int .i64 772] 3)) (.cells #[.int .u32 x] 22)) (.cells #[.int .u64 t, .int .u64 r, .int .u64 ti, .int .u32 ca] 51)) (.cells #[.int .u32 0, .int .u32 0, .int .u32 0, .int .u32 0, .int .u32 0, .int .u32 0, .int .u32 0, .int .u64 0, .int .u64 0] 47)
  have HBW := Lib.hid hbw
  clear hr hbw
  go_enter Tryd.func27, Tryd.ntmps27
  go_wp2_with fail
  refine (find_c _ _ (HR.out.below HBW.out)).mono ?_
  rintro e w1 ⟨⟨v, rfl, hv⟩, hb1⟩
  obtain ⟨s, ka, fi, rfl⟩ := HV.out _ hv
  clear HV hv
  obtain ⟨hc1, hf1⟩ := bcf hb1
  have HB1 := Lib.hid (bthen HBW.out hb1)
  have hz1 := hb1.size
  simp only [World.size_alloc] at hz1
  have n0 : ¬ w.heap.size = w1.heap.size := by omega
  have n1 : ¬ w.heap.size + 1 = w1.heap.size := by omega
  have n2 : ¬ w.heap.size + 2 = w1.heap.size := by omega
  have n3 : ¬ w.heap.size + 3 = w1.heap.size := by omega
  have n4 : ¬ w.heap.size + 4 = w1.heap.size := by omega
  have m0 : w.heap.size < w1.heap.size := by omega
  have m1 : w.heap.size + 1 < w1.heap.size := by omega
  have m2 : w.heap.size + 2 < w1.heap.size := by omega
  have m3 : w.heap.size + 3 < w1.heap.size := by omega
  have m4 : w.heap.size + 4 < w1.heap.size := by omega
  clear hb1 hz1
  go_wp2_with (go_at_call 57; refine (kept_c _ _ _).mono ?_; rintro e w' ⟨rfl, rfl⟩; simp only [kept_nums])
  refine (legal_c _ _ _ (HR.out.below (bal HB1.out _))).mono ?_
  rintro e w2 ⟨⟨v, rfl, hv⟩, hb2⟩
  obtain rfl := HW.out _ hv
  clear HW hv
  obtain ⟨hc2, hf2⟩ := bcf hb2
  have HBE := Lib.hid (bthen (bal HB1.out _) hb2)
  have hz2 := hb2.size
  simp only [World.size_alloc] at hz2 hc2 hf2
  have p0 : ¬ w.heap.size = w2.heap.size := by omega
  have p4 : ¬ w.heap.size + 4 = w2.heap.size := by omega
  have l5 : w.heap.size < w1.heap.size + 1 := by omega
  have l6 : w.heap.size + 4 < w1.heap.size + 1 := by omega
  have l0 : w.heap.size < w2.heap.size := by omega
  have l4 : w.heap.size + 4 < w2.heap.size := by omega
  clear hb2 hz2
  have G := fun (j : Nat) (v : Value) (h : (#[Value.int .u32 f0, .int .u32 f1, .int .u32 f2, .int .u32 f3, .int .u32 f4, .int .u32 f5, .int .u32 f6, .int .u64 c, .int .u64 i] : Array Value)[j]? = some v) => (hc2 w.heap.size j l5).trans (show _ = some v by simp [go_sem, hc1, n0, m0, h])
  have R := fun (j : Nat) (v : Value) (h : (#[Value.int .u32 0, .int .u32 0, .int .u32 0, .int .u32 0, .int .u32 0, .int .u32 0, .int .u32 0, .int .u64 0, .int .u64 0] : Array Value)[j]? = some v) => (hc2 (w.heap.size + 4) j l6).trans (show _ = some v by simp [go_sem, hc1, n4, m4, h])
  have g0 := G 0 _ rfl
  have r0 := R 0 _ rfl
  have g1 := G 1 _ rfl
  have r1 := R 1 _ rfl
  have g2 := G 2 _ rfl
  have r2 := R 2 _ rfl
  have g3 := G 3 _ rfl
  have r3 := R 3 _ rfl
  have g4 := G 4 _ rfl
  have r4 := R 4 _ rfl
  have g5 := G 5 _ rfl
  have r5 := R 5 _ rfl
  have g6 := G 6 _ rfl
  have r6 := R 6 _ rfl
  have g7 := G 7 _ rfl
  have r7 := R 7 _ rfl
  have g8 := G 8 _ rfl
  have r8 := R 8 _ rfl
  have zg : ∀ j, w2.frozen? ⟨w.heap.size, j, none⟩ = false := fun j => (hf2 w.heap.size j l5).trans (by simp [go_sem, hf1, n0, m0])
  have zr : ∀ j, w2.frozen? ⟨w.heap.size + 4, j, none⟩ = false := fun j => (hf2 (w.heap.size + 4) j l6).trans (by simp [go_sem, hf1, n4, m4])
  have V := fun (j : Nat) (v : Value) (h : (#[Value.int .u64 t, .int .u64 r, .int .u64 ti, .int .u32 ca] : Array Value)[j]? = some v) => (hc2 (w.heap.size + 3) j (by omega)).trans (show _ = some v by simp [go_sem, hc1, n3, m3, h])
  have v0 := V 0 _ rfl
  have v1 := V 1 _ rfl
  have x0 := (hc2 (w.heap.size + 1) 0 (by omega)).trans (show _ = some (.int .i64 772) by simp [go_sem, hc1, n1, m1])
  have x1 := (hc2 (w.heap.size + 2) 0 (by omega)).trans (show _ = some (.int .u32 x) by simp [go_sem, hc1, n2, m2])
  clear hc1 hf1 hc2 hf2 G R V
  go_wp2
  refine bodyPost_ret (v := .tuple #[fileV f0 y f2 f3 f4 f5 f6 c i, .int .i64 0]) (by simp [results, Tryd.results27, go_sem, fileV, *]) rfl ⟨rfl, ?_⟩
  repeat (first | (with_reducible exact HBE.out) | (with_reducible refine bal ?_ _) | (with_reducible refine bset ?_ ?_ _; rotate_left; (simp <;> omega)) | (with_reducible refine Below.drew ?_) | (with_reducible refine bdn ?_ _))
set_option maxHeartbeats 16000000 in
set_option maxRecDepth 100000 in
theorem cwr_3 (x f0 f1 f2 f3 f4 f5 f6 c i t r ti ca : Int) (w : World) (hr : RowsIs w) :
    Calls Tryd.prog 27 #[.agg #[.int .u32 f0, .int .u32 f1, .int .u32 f2, .int .u32 f3, .int .u32 f4, .int .u32 f5, .int .u32 f6, .int .u64 c, .int .u64 i], .int .i64 773, .int .u32 x, .agg #[.int .u64 t, .int .u64 r, .int .u64 ti, .int .u32 ca]] w fun e w' =>
      e = .returned (.tuple #[fileV f0 f1 (legV 3 x) f3 f4 f5 f6 c i, .int .i64 0]) ∧ Below w.heap.size w w' := by
  have HR := Lib.hid hr
  have HV := Lib.hid (fun (v : Value) (h' : FindIs 773 v) => (fast_dec.1 3 (by decide)) ▸ find_fast 3 (by decide) h')
  have HW := Lib.hid (fun (v : Value) (h' : LegalIs 773 x v) => legal_at 3 (by decide) x h')
  generalize legV 3 x = y at *
  have hbw := bal (bal (bal (bal (bal (Below.refl w.heap.size w) (.cells #[.int .u32 f0, .int .u32 f1, .int .u32 f2, .int .u32 f3, .int .u32 f4, .int .u32 f5, .int .u32 f6, .int .u64 c, .int .u64 i] 47)) (.cells #[.int .i64 773] 3)) (.cells #[.int .u32 x] 22)) (.cells #[.int .u64 t, .int .u64 r, .int .u64 ti, .int .u32 ca] 51)) (.cells #[.int .u32 0, .int .u32 0, .int .u32 0, .int .u32 0, .int .u32 0, .int .u32 0, .int .u32 0, .int .u64 0, .int .u64 0] 47)
  have HBW := Lib.hid hbw
  clear hr hbw
  go_enter Tryd.func27, Tryd.ntmps27
  go_wp2_with fail
  refine (find_c _ _ (HR.out.below HBW.out)).mono ?_
  rintro e w1 ⟨⟨v, rfl, hv⟩, hb1⟩
  obtain ⟨s, ka, fi, rfl⟩ := HV.out _ hv
  clear HV hv
  obtain ⟨hc1, hf1⟩ := bcf hb1
  have HB1 := Lib.hid (bthen HBW.out hb1)
  have hz1 := hb1.size
  simp only [World.size_alloc] at hz1
  have n0 : ¬ w.heap.size = w1.heap.size := by omega
  have n1 : ¬ w.heap.size + 1 = w1.heap.size := by omega
  have n2 : ¬ w.heap.size + 2 = w1.heap.size := by omega
  have n3 : ¬ w.heap.size + 3 = w1.heap.size := by omega
  have n4 : ¬ w.heap.size + 4 = w1.heap.size := by omega
  have m0 : w.heap.size < w1.heap.size := by omega
  have m1 : w.heap.size + 1 < w1.heap.size := by omega
  have m2 : w.heap.size + 2 < w1.heap.size := by omega
  have m3 : w.heap.size + 3 < w1.heap.size := by omega
  have m4 : w.heap.size + 4 < w1.heap.size := by omega
  clear hb1 hz1
  go_wp2_with (go_at_call 57; refine (kept_c _ _ _).mono ?_; rintro e w' ⟨rfl, rfl⟩; simp only [kept_nums])
  refine (legal_c _ _ _ (HR.out.below (bal HB1.out _))).mono ?_
  rintro e w2 ⟨⟨v, rfl, hv⟩, hb2⟩
  obtain rfl := HW.out _ hv
  clear HW hv
  obtain ⟨hc2, hf2⟩ := bcf hb2
  have HBE := Lib.hid (bthen (bal HB1.out _) hb2)
  have hz2 := hb2.size
  simp only [World.size_alloc] at hz2 hc2 hf2
  have p0 : ¬ w.heap.size = w2.heap.size := by omega
  have p4 : ¬ w.heap.size + 4 = w2.heap.size := by omega
  have l5 : w.heap.size < w1.heap.size + 1 := by omega
  have l6 : w.heap.size + 4 < w1.heap.size + 1 := by omega
  have l0 : w.heap.size < w2.heap.size := by omega
  have l4 : w.heap.size + 4 < w2.heap.size := by omega
  clear hb2 hz2
  have G := fun (j : Nat) (v : Value) (h : (#[Value.int .u32 f0, .int .u32 f1, .int .u32 f2, .int .u32 f3, .int .u32 f4, .int .u32 f5, .int .u32 f6, .int .u64 c, .int .u64 i] : Array Value)[j]? = some v) => (hc2 w.heap.size j l5).trans (show _ = some v by simp [go_sem, hc1, n0, m0, h])
  have R := fun (j : Nat) (v : Value) (h : (#[Value.int .u32 0, .int .u32 0, .int .u32 0, .int .u32 0, .int .u32 0, .int .u32 0, .int .u32 0, .int .u64 0, .int .u64 0] : Array Value)[j]? = some v) => (hc2 (w.heap.size + 4) j l6).trans (show _ = some v by simp [go_sem, hc1, n4, m4, h])
  have g0 := G 0 _ rfl
  have r0 := R 0 _ rfl
  have g1 := G 1 _ rfl
  have r1 := R 1 _ rfl
  have g2 := G 2 _ rfl
  have r2 := R 2 _ rfl
  have g3 := G 3 _ rfl
  have r3 := R 3 _ rfl
  have g4 := G 4 _ rfl
  have r4 := R 4 _ rfl
  have g5 := G 5 _ rfl
  have r5 := R 5 _ rfl
  have g6 := G 6 _ rfl
  have r6 := R 6 _ rfl
  have g7 := G 7 _ rfl
  have r7 := R 7 _ rfl
  have g8 := G 8 _ rfl
  have r8 := R 8 _ rfl
  have zg : ∀ j, w2.frozen? ⟨w.heap.size, j, none⟩ = false := fun j => (hf2 w.heap.size j l5).trans (by simp [go_sem, hf1, n0, m0])
  have zr : ∀ j, w2.frozen? ⟨w.heap.size + 4, j, none⟩ = false := fun j => (hf2 (w.heap.size + 4) j l6).trans (by simp [go_sem, hf1, n4, m4])
  have V := fun (j : Nat) (v : Value) (h : (#[Value.int .u64 t, .int .u64 r, .int .u64 ti, .int .u32 ca] : Array Value)[j]? = some v) => (hc2 (w.heap.size + 3) j (by omega)).trans (show _ = some v by simp [go_sem, hc1, n3, m3, h])
  have v0 := V 0 _ rfl
  have v1 := V 1 _ rfl
  have x0 := (hc2 (w.heap.size + 1) 0 (by omega)).trans (show _ = some (.int .i64 773) by simp [go_sem, hc1, n1, m1])
  have x1 := (hc2 (w.heap.size + 2) 0 (by omega)).trans (show _ = some (.int .u32 x) by simp [go_sem, hc1, n2, m2])
  clear hc1 hf1 hc2 hf2 G R V
  go_wp2
  refine bodyPost_ret (v := .tuple #[fileV f0 f1 y f3 f4 f5 f6 c i, .int .i64 0]) (by simp [results, Tryd.results27, go_sem, fileV, *]) rfl ⟨rfl, ?_⟩
  repeat (first | (with_reducible exact HBE.out) | (with_reducible refine bal ?_ _) | (with_reducible refine bset ?_ ?_ _; rotate_left; (simp <;> omega)) | (with_reducible refine Below.drew ?_) | (with_reducible refine bdn ?_ _))
set_option maxHeartbeats 16000000 in
set_option maxRecDepth 100000 in
theorem cwr_4 (x f0 f1 f2 f3 f4 f5 f6 c i t r ti ca : Int) (w : World) (hr : RowsIs w) :
    Calls Tryd.prog 27 #[.agg #[.int .u32 f0, .int .u32 f1, .int .u32 f2, .int .u32 f3, .int .u32 f4, .int .u32 f5, .int .u32 f6, .int .u64 c, .int .u64 i], .int .i64 832, .int .u32 x, .agg #[.int .u64 t, .int .u64 r, .int .u64 ti, .int .u32 ca]] w fun e w' =>
      e = .returned (.tuple #[fileV f0 f1 f2 (legV 4 x) f4 f5 f6 c i, .int .i64 0]) ∧ Below w.heap.size w w' := by
  have HR := Lib.hid hr
  have HV := Lib.hid (fun (v : Value) (h' : FindIs 832 v) => (fast_dec.1 4 (by decide)) ▸ find_fast 4 (by decide) h')
  have HW := Lib.hid (fun (v : Value) (h' : LegalIs 832 x v) => legal_at 4 (by decide) x h')
  generalize legV 4 x = y at *
  have hbw := bal (bal (bal (bal (bal (Below.refl w.heap.size w) (.cells #[.int .u32 f0, .int .u32 f1, .int .u32 f2, .int .u32 f3, .int .u32 f4, .int .u32 f5, .int .u32 f6, .int .u64 c, .int .u64 i] 47)) (.cells #[.int .i64 832] 3)) (.cells #[.int .u32 x] 22)) (.cells #[.int .u64 t, .int .u64 r, .int .u64 ti, .int .u32 ca] 51)) (.cells #[.int .u32 0, .int .u32 0, .int .u32 0, .int .u32 0, .int .u32 0, .int .u32 0, .int .u32 0, .int .u64 0, .int .u64 0] 47)
  have HBW := Lib.hid hbw
  clear hr hbw
  go_enter Tryd.func27, Tryd.ntmps27
  go_wp2_with fail
  refine (find_c _ _ (HR.out.below HBW.out)).mono ?_
  rintro e w1 ⟨⟨v, rfl, hv⟩, hb1⟩
  obtain ⟨s, ka, fi, rfl⟩ := HV.out _ hv
  clear HV hv
  obtain ⟨hc1, hf1⟩ := bcf hb1
  have HB1 := Lib.hid (bthen HBW.out hb1)
  have hz1 := hb1.size
  simp only [World.size_alloc] at hz1
  have n0 : ¬ w.heap.size = w1.heap.size := by omega
  have n1 : ¬ w.heap.size + 1 = w1.heap.size := by omega
  have n2 : ¬ w.heap.size + 2 = w1.heap.size := by omega
  have n3 : ¬ w.heap.size + 3 = w1.heap.size := by omega
  have n4 : ¬ w.heap.size + 4 = w1.heap.size := by omega
  have m0 : w.heap.size < w1.heap.size := by omega
  have m1 : w.heap.size + 1 < w1.heap.size := by omega
  have m2 : w.heap.size + 2 < w1.heap.size := by omega
  have m3 : w.heap.size + 3 < w1.heap.size := by omega
  have m4 : w.heap.size + 4 < w1.heap.size := by omega
  clear hb1 hz1
  go_wp2_with (go_at_call 57; refine (kept_c _ _ _).mono ?_; rintro e w' ⟨rfl, rfl⟩; simp only [kept_nums])
  refine (legal_c _ _ _ (HR.out.below (bal HB1.out _))).mono ?_
  rintro e w2 ⟨⟨v, rfl, hv⟩, hb2⟩
  obtain rfl := HW.out _ hv
  clear HW hv
  obtain ⟨hc2, hf2⟩ := bcf hb2
  have HBE := Lib.hid (bthen (bal HB1.out _) hb2)
  have hz2 := hb2.size
  simp only [World.size_alloc] at hz2 hc2 hf2
  have p0 : ¬ w.heap.size = w2.heap.size := by omega
  have p4 : ¬ w.heap.size + 4 = w2.heap.size := by omega
  have l5 : w.heap.size < w1.heap.size + 1 := by omega
  have l6 : w.heap.size + 4 < w1.heap.size + 1 := by omega
  have l0 : w.heap.size < w2.heap.size := by omega
  have l4 : w.heap.size + 4 < w2.heap.size := by omega
  clear hb2 hz2
  have G := fun (j : Nat) (v : Value) (h : (#[Value.int .u32 f0, .int .u32 f1, .int .u32 f2, .int .u32 f3, .int .u32 f4, .int .u32 f5, .int .u32 f6, .int .u64 c, .int .u64 i] : Array Value)[j]? = some v) => (hc2 w.heap.size j l5).trans (show _ = some v by simp [go_sem, hc1, n0, m0, h])
  have R := fun (j : Nat) (v : Value) (h : (#[Value.int .u32 0, .int .u32 0, .int .u32 0, .int .u32 0, .int .u32 0, .int .u32 0, .int .u32 0, .int .u64 0, .int .u64 0] : Array Value)[j]? = some v) => (hc2 (w.heap.size + 4) j l6).trans (show _ = some v by simp [go_sem, hc1, n4, m4, h])
  have g0 := G 0 _ rfl
  have r0 := R 0 _ rfl
  have g1 := G 1 _ rfl
  have r1 := R 1 _ rfl
  have g2 := G 2 _ rfl
  have r2 := R 2 _ rfl
  have g3 := G 3 _ rfl
  have r3 := R 3 _ rfl
  have g4 := G 4 _ rfl
  have r4 := R 4 _ rfl
  have g5 := G 5 _ rfl
  have r5 := R 5 _ rfl
  have g6 := G 6 _ rfl
  have r6 := R 6 _ rfl
  have g7 := G 7 _ rfl
  have r7 := R 7 _ rfl
  have g8 := G 8 _ rfl
  have r8 := R 8 _ rfl
  have zg : ∀ j, w2.frozen? ⟨w.heap.size, j, none⟩ = false := fun j => (hf2 w.heap.size j l5).trans (by simp [go_sem, hf1, n0, m0])
  have zr : ∀ j, w2.frozen? ⟨w.heap.size + 4, j, none⟩ = false := fun j => (hf2 (w.heap.size + 4) j l6).trans (by simp [go_sem, hf1, n4, m4])
  have V := fun (j : Nat) (v : Value) (h : (#[Value.int .u64 t, .int .u64 r, .int .u64 ti, .int .u32 ca] : Array Value)[j]? = some v) => (hc2 (w.heap.size + 3) j (by omega)).trans (show _ = some v by simp [go_sem, hc1, n3, m3, h])
  have v0 := V 0 _ rfl
  have v1 := V 1 _ rfl
  have x0 := (hc2 (w.heap.size + 1) 0 (by omega)).trans (show _ = some (.int .i64 832) by simp [go_sem, hc1, n1, m1])
  have x1 := (hc2 (w.heap.size + 2) 0 (by omega)).trans (show _ = some (.int .u32 x) by simp [go_sem, hc1, n2, m2])
  clear hc1 hf1 hc2 hf2 G R V
  go_wp2
  refine bodyPost_ret (v := .tuple #[fileV f0 f1 f2 y f4 f5 f6 c i, .int .i64 0]) (by simp [results, Tryd.results27, go_sem, fileV, *]) rfl ⟨rfl, ?_⟩
  repeat (first | (with_reducible exact HBE.out) | (with_reducible refine bal ?_ _) | (with_reducible refine bset ?_ ?_ _; rotate_left; (simp <;> omega)) | (with_reducible refine Below.drew ?_) | (with_reducible refine bdn ?_ _))
set_option maxHeartbeats 16000000 in
set_option maxRecDepth 100000 in
theorem cwr_5 (x f0 f1 f2 f3 f4 f5 f6 c i t r ti ca : Int) (w : World) (hr : RowsIs w) :
    Calls Tryd.prog 27 #[.agg #[.int .u32 f0, .int .u32 f1, .int .u32 f2, .int .u32 f3, .int .u32 f4, .int .u32 f5, .int .u32 f6, .int .u64 c, .int .u64 i], .int .i64 833, .int .u32 x, .agg #[.int .u64 t, .int .u64 r, .int .u64 ti, .int .u32 ca]] w fun e w' =>
      e = .returned (.tuple #[fileV f0 f1 f2 f3 (legV 5 x) f5 f6 c i, .int .i64 0]) ∧ Below w.heap.size w w' := by
  have HR := Lib.hid hr
  have HV := Lib.hid (fun (v : Value) (h' : FindIs 833 v) => (fast_dec.1 5 (by decide)) ▸ find_fast 5 (by decide) h')
  have HW := Lib.hid (fun (v : Value) (h' : LegalIs 833 x v) => legal_at 5 (by decide) x h')
  generalize legV 5 x = y at *
  have hbw := bal (bal (bal (bal (bal (Below.refl w.heap.size w) (.cells #[.int .u32 f0, .int .u32 f1, .int .u32 f2, .int .u32 f3, .int .u32 f4, .int .u32 f5, .int .u32 f6, .int .u64 c, .int .u64 i] 47)) (.cells #[.int .i64 833] 3)) (.cells #[.int .u32 x] 22)) (.cells #[.int .u64 t, .int .u64 r, .int .u64 ti, .int .u32 ca] 51)) (.cells #[.int .u32 0, .int .u32 0, .int .u32 0, .int .u32 0, .int .u32 0, .int .u32 0, .int .u32 0, .int .u64 0, .int .u64 0] 47)
  have HBW := Lib.hid hbw
  clear hr hbw
  go_enter Tryd.func27, Tryd.ntmps27
  go_wp2_with fail
  refine (find_c _ _ (HR.out.below HBW.out)).mono ?_
  rintro e w1 ⟨⟨v, rfl, hv⟩, hb1⟩
  obtain ⟨s, ka, fi, rfl⟩ := HV.out _ hv
  clear HV hv
  obtain ⟨hc1, hf1⟩ := bcf hb1
  have HB1 := Lib.hid (bthen HBW.out hb1)
  have hz1 := hb1.size
  simp only [World.size_alloc] at hz1
  have n0 : ¬ w.heap.size = w1.heap.size := by omega
  have n1 : ¬ w.heap.size + 1 = w1.heap.size := by omega
  have n2 : ¬ w.heap.size + 2 = w1.heap.size := by omega
  have n3 : ¬ w.heap.size + 3 = w1.heap.size := by omega
  have n4 : ¬ w.heap.size + 4 = w1.heap.size := by omega
  have m0 : w.heap.size < w1.heap.size := by omega
  have m1 : w.heap.size + 1 < w1.heap.size := by omega
  have m2 : w.heap.size + 2 < w1.heap.size := by omega
  have m3 : w.heap.size + 3 < w1.heap.size := by omega
  have m4 : w.heap.size + 4 < w1.heap.size := by omega
  clear hb1 hz1
  go_wp2_with (go_at_call 57; refine (kept_c _ _ _).mono ?_; rintro e w' ⟨rfl, rfl⟩; simp only [kept_nums])
  refine (legal_c _ _ _ (HR.out.below (bal HB1.out _))).mono ?_
  rintro e w2 ⟨⟨v, rfl, hv⟩, hb2⟩
  obtain rfl := HW.out _ hv
  clear HW hv
  obtain ⟨hc2, hf2⟩ := bcf hb2
  have HBE := Lib.hid (bthen (bal HB1.out _) hb2)
  have hz2 := hb2.size
  simp only [World.size_alloc] at hz2 hc2 hf2
  have p0 : ¬ w.heap.size = w2.heap.size := by omega
  have p4 : ¬ w.heap.size + 4 = w2.heap.size := by omega
  have l5 : w.heap.size < w1.heap.size + 1 := by omega
  have l6 : w.heap.size + 4 < w1.heap.size + 1 := by omega
  have l0 : w.heap.size < w2.heap.size := by omega
  have l4 : w.heap.size + 4 < w2.heap.size := by omega
  clear hb2 hz2
  have G := fun (j : Nat) (v : Value) (h : (#[Value.int .u32 f0, .int .u32 f1, .int .u32 f2, .int .u32 f3, .int .u32 f4, .int .u32 f5, .int .u32 f6, .int .u64 c, .int .u64 i] : Array Value)[j]? = some v) => (hc2 w.heap.size j l5).trans (show _ = some v by simp [go_sem, hc1, n0, m0, h])
  have R := fun (j : Nat) (v : Value) (h : (#[Value.int .u32 0, .int .u32 0, .int .u32 0, .int .u32 0, .int .u32 0, .int .u32 0, .int .u32 0, .int .u64 0, .int .u64 0] : Array Value)[j]? = some v) => (hc2 (w.heap.size + 4) j l6).trans (show _ = some v by simp [go_sem, hc1, n4, m4, h])
  have g0 := G 0 _ rfl
  have r0 := R 0 _ rfl
  have g1 := G 1 _ rfl
  have r1 := R 1 _ rfl
  have g2 := G 2 _ rfl
  have r2 := R 2 _ rfl
  have g3 := G 3 _ rfl
  have r3 := R 3 _ rfl
  have g4 := G 4 _ rfl
  have r4 := R 4 _ rfl
  have g5 := G 5 _ rfl
  have r5 := R 5 _ rfl
  have g6 := G 6 _ rfl
  have r6 := R 6 _ rfl
  have g7 := G 7 _ rfl
  have r7 := R 7 _ rfl
  have g8 := G 8 _ rfl
  have r8 := R 8 _ rfl
  have zg : ∀ j, w2.frozen? ⟨w.heap.size, j, none⟩ = false := fun j => (hf2 w.heap.size j l5).trans (by simp [go_sem, hf1, n0, m0])
  have zr : ∀ j, w2.frozen? ⟨w.heap.size + 4, j, none⟩ = false := fun j => (hf2 (w.heap.size + 4) j l6).trans (by simp [go_sem, hf1, n4, m4])
  have V := fun (j : Nat) (v : Value) (h : (#[Value.int .u64 t, .int .u64 r, .int .u64 ti, .int .u32 ca] : Array Value)[j]? = some v) => (hc2 (w.heap.size + 3) j (by omega)).trans (show _ = some v by simp [go_sem, hc1, n3, m3, h])
  have v0 := V 0 _ rfl
  have v1 := V 1 _ rfl
  have x0 := (hc2 (w.heap.size + 1) 0 (by omega)).trans (show _ = some (.int .i64 833) by simp [go_sem, hc1, n1, m1])
  have x1 := (hc2 (w.heap.size + 2) 0 (by omega)).trans (show _ = some (.int .u32 x) by simp [go_sem, hc1, n2, m2])
  clear hc1 hf1 hc2 hf2 G R V
  go_wp2
  refine bodyPost_ret (v := .tuple #[fileV f0 f1 f2 f3 y f5 f6 c i, .int .i64 0]) (by simp [results, Tryd.results27, go_sem, fileV, *]) rfl ⟨rfl, ?_⟩
  repeat (first | (with_reducible exact HBE.out) | (with_reducible refine bal ?_ _) | (with_reducible refine bset ?_ ?_ _; rotate_left; (simp <;> omega)) | (with_reducible refine Below.drew ?_) | (with_reducible refine bdn ?_ _))
set_option maxHeartbeats 16000000 in
set_option maxRecDepth 100000 in
theorem cwr_6 (x f0 f1 f2 f3 f4 f5 f6 c i t r ti ca : Int) (w : World) (hr : RowsIs w) :
    Calls Tryd.prog 27 #[.agg #[.int .u32 f0, .int .u32 f1, .int .u32 f2, .int .u32 f3, .int .u32 f4, .int .u32 f5, .int .u32 f6, .int .u64 c, .int .u64 i], .int .i64 834, .int .u32 x, .agg #[.int .u64 t, .int .u64 r, .int .u64 ti, .int .u32 ca]] w fun e w' =>
      e = .returned (.tuple #[fileV f0 f1 f2 f3 f4 (legV 6 x) f6 c i, .int .i64 0]) ∧ Below w.heap.size w w' := by
  have HR := Lib.hid hr
  have HV := Lib.hid (fun (v : Value) (h' : FindIs 834 v) => (fast_dec.1 6 (by decide)) ▸ find_fast 6 (by decide) h')
  have HW := Lib.hid (fun (v : Value) (h' : LegalIs 834 x v) => legal_at 6 (by decide) x h')
  generalize legV 6 x = y at *
  have hbw := bal (bal (bal (bal (bal (Below.refl w.heap.size w) (.cells #[.int .u32 f0, .int .u32 f1, .int .u32 f2, .int .u32 f3, .int .u32 f4, .int .u32 f5, .int .u32 f6, .int .u64 c, .int .u64 i] 47)) (.cells #[.int .i64 834] 3)) (.cells #[.int .u32 x] 22)) (.cells #[.int .u64 t, .int .u64 r, .int .u64 ti, .int .u32 ca] 51)) (.cells #[.int .u32 0, .int .u32 0, .int .u32 0, .int .u32 0, .int .u32 0, .int .u32 0, .int .u32 0, .int .u64 0, .int .u64 0] 47)
  have HBW := Lib.hid hbw
  clear hr hbw
  go_enter Tryd.func27, Tryd.ntmps27
  go_wp2_with fail
  refine (find_c _ _ (HR.out.below HBW.out)).mono ?_
  rintro e w1 ⟨⟨v, rfl, hv⟩, hb1⟩
  obtain ⟨s, ka, fi, rfl⟩ := HV.out _ hv
  clear HV hv
  obtain ⟨hc1, hf1⟩ := bcf hb1
  have HB1 := Lib.hid (bthen HBW.out hb1)
  have hz1 := hb1.size
  simp only [World.size_alloc] at hz1
  have n0 : ¬ w.heap.size = w1.heap.size := by omega
  have n1 : ¬ w.heap.size + 1 = w1.heap.size := by omega
  have n2 : ¬ w.heap.size + 2 = w1.heap.size := by omega
  have n3 : ¬ w.heap.size + 3 = w1.heap.size := by omega
  have n4 : ¬ w.heap.size + 4 = w1.heap.size := by omega
  have m0 : w.heap.size < w1.heap.size := by omega
  have m1 : w.heap.size + 1 < w1.heap.size := by omega
  have m2 : w.heap.size + 2 < w1.heap.size := by omega
  have m3 : w.heap.size + 3 < w1.heap.size := by omega
  have m4 : w.heap.size + 4 < w1.heap.size := by omega
  clear hb1 hz1
  go_wp2_with (go_at_call 57; refine (kept_c _ _ _).mono ?_; rintro e w' ⟨rfl, rfl⟩; simp only [kept_nums])
  refine (legal_c _ _ _ (HR.out.below (bal HB1.out _))).mono ?_
  rintro e w2 ⟨⟨v, rfl, hv⟩, hb2⟩
  obtain rfl := HW.out _ hv
  clear HW hv
  obtain ⟨hc2, hf2⟩ := bcf hb2
  have HBE := Lib.hid (bthen (bal HB1.out _) hb2)
  have hz2 := hb2.size
  simp only [World.size_alloc] at hz2 hc2 hf2
  have p0 : ¬ w.heap.size = w2.heap.size := by omega
  have p4 : ¬ w.heap.size + 4 = w2.heap.size := by omega
  have l5 : w.heap.size < w1.heap.size + 1 := by omega
  have l6 : w.heap.size + 4 < w1.heap.size + 1 := by omega
  have l0 : w.heap.size < w2.heap.size := by omega
  have l4 : w.heap.size + 4 < w2.heap.size := by omega
  clear hb2 hz2
  have G := fun (j : Nat) (v : Value) (h : (#[Value.int .u32 f0, .int .u32 f1, .int .u32 f2, .int .u32 f3, .int .u32 f4, .int .u32 f5, .int .u32 f6, .int .u64 c, .int .u64 i] : Array Value)[j]? = some v) => (hc2 w.heap.size j l5).trans (show _ = some v by simp [go_sem, hc1, n0, m0, h])
  have R := fun (j : Nat) (v : Value) (h : (#[Value.int .u32 0, .int .u32 0, .int .u32 0, .int .u32 0, .int .u32 0, .int .u32 0, .int .u32 0, .int .u64 0, .int .u64 0] : Array Value)[j]? = some v) => (hc2 (w.heap.size + 4) j l6).trans (show _ = some v by simp [go_sem, hc1, n4, m4, h])
  have g0 := G 0 _ rfl
  have r0 := R 0 _ rfl
  have g1 := G 1 _ rfl
  have r1 := R 1 _ rfl
  have g2 := G 2 _ rfl
  have r2 := R 2 _ rfl
  have g3 := G 3 _ rfl
  have r3 := R 3 _ rfl
  have g4 := G 4 _ rfl
  have r4 := R 4 _ rfl
  have g5 := G 5 _ rfl
  have r5 := R 5 _ rfl
  have g6 := G 6 _ rfl
  have r6 := R 6 _ rfl
  have g7 := G 7 _ rfl
  have r7 := R 7 _ rfl
  have g8 := G 8 _ rfl
  have r8 := R 8 _ rfl
  have zg : ∀ j, w2.frozen? ⟨w.heap.size, j, none⟩ = false := fun j => (hf2 w.heap.size j l5).trans (by simp [go_sem, hf1, n0, m0])
  have zr : ∀ j, w2.frozen? ⟨w.heap.size + 4, j, none⟩ = false := fun j => (hf2 (w.heap.size + 4) j l6).trans (by simp [go_sem, hf1, n4, m4])
  have V := fun (j : Nat) (v : Value) (h : (#[Value.int .u64 t, .int .u64 r, .int .u64 ti, .int .u32 ca] : Array Value)[j]? = some v) => (hc2 (w.heap.size + 3) j (by omega)).trans (show _ = some v by simp [go_sem, hc1, n3, m3, h])
  have v0 := V 0 _ rfl
  have v1 := V 1 _ rfl
  have x0 := (hc2 (w.heap.size + 1) 0 (by omega)).trans (show _ = some (.int .i64 834) by simp [go_sem, hc1, n1, m1])
  have x1 := (hc2 (w.heap.size + 2) 0 (by omega)).trans (show _ = some (.int .u32 x) by simp [go_sem, hc1, n2, m2])
  clear hc1 hf1 hc2 hf2 G R V
  go_wp2
  refine bodyPost_ret (v := .tuple #[fileV f0 f1 f2 f3 f4 y f6 c i, .int .i64 0]) (by simp [results, Tryd.results27, go_sem, fileV, *]) rfl ⟨rfl, ?_⟩
  repeat (first | (with_reducible exact HBE.out) | (with_reducible refine bal ?_ _) | (with_reducible refine bset ?_ ?_ _; rotate_left; (simp <;> omega)) | (with_reducible refine Below.drew ?_) | (with_reducible refine bdn ?_ _))
set_option maxHeartbeats 16000000 in
set_option maxRecDepth 100000 in
theorem cwr_7 (x f0 f1 f2 f3 f4 f5 f6 c i t r ti ca : Int) (w : World) (hr : RowsIs w) :
    Calls Tryd.prog 27 #[.agg #[.int .u32 f0, .int .u32 f1, .int .u32 f2, .int .u32 f3, .int .u32 f4, .int .u32 f5, .int .u32 f6, .int .u64 c, .int .u64 i], .int .i64 835, .int .u32 x, .agg #[.int .u64 t, .int .u64 r, .int .u64 ti, .int .u32 ca]] w fun e w' =>
      e = .returned (.tuple #[fileV f0 f1 f2 f3 f4 f5 (legV 7 x) c i, .int .i64 0]) ∧ Below w.heap.size w w' := by
  have HR := Lib.hid hr
  have HV := Lib.hid (fun (v : Value) (h' : FindIs 835 v) => (fast_dec.1 7 (by decide)) ▸ find_fast 7 (by decide) h')
  have HW := Lib.hid (fun (v : Value) (h' : LegalIs 835 x v) => legal_at 7 (by decide) x h')
  generalize legV 7 x = y at *
  have hbw := bal (bal (bal (bal (bal (Below.refl w.heap.size w) (.cells #[.int .u32 f0, .int .u32 f1, .int .u32 f2, .int .u32 f3, .int .u32 f4, .int .u32 f5, .int .u32 f6, .int .u64 c, .int .u64 i] 47)) (.cells #[.int .i64 835] 3)) (.cells #[.int .u32 x] 22)) (.cells #[.int .u64 t, .int .u64 r, .int .u64 ti, .int .u32 ca] 51)) (.cells #[.int .u32 0, .int .u32 0, .int .u32 0, .int .u32 0, .int .u32 0, .int .u32 0, .int .u32 0, .int .u64 0, .int .u64 0] 47)
  have HBW := Lib.hid hbw
  clear hr hbw
  go_enter Tryd.func27, Tryd.ntmps27
  go_wp2_with fail
  refine (find_c _ _ (HR.out.below HBW.out)).mono ?_
  rintro e w1 ⟨⟨v, rfl, hv⟩, hb1⟩
  obtain ⟨s, ka, fi, rfl⟩ := HV.out _ hv
  clear HV hv
  obtain ⟨hc1, hf1⟩ := bcf hb1
  have HB1 := Lib.hid (bthen HBW.out hb1)
  have hz1 := hb1.size
  simp only [World.size_alloc] at hz1
  have n0 : ¬ w.heap.size = w1.heap.size := by omega
  have n1 : ¬ w.heap.size + 1 = w1.heap.size := by omega
  have n2 : ¬ w.heap.size + 2 = w1.heap.size := by omega
  have n3 : ¬ w.heap.size + 3 = w1.heap.size := by omega
  have n4 : ¬ w.heap.size + 4 = w1.heap.size := by omega
  have m0 : w.heap.size < w1.heap.size := by omega
  have m1 : w.heap.size + 1 < w1.heap.size := by omega
  have m2 : w.heap.size + 2 < w1.heap.size := by omega
  have m3 : w.heap.size + 3 < w1.heap.size := by omega
  have m4 : w.heap.size + 4 < w1.heap.size := by omega
  clear hb1 hz1
  go_wp2_with (go_at_call 57; refine (kept_c _ _ _).mono ?_; rintro e w' ⟨rfl, rfl⟩; simp only [kept_nums])
  refine (legal_c _ _ _ (HR.out.below (bal HB1.out _))).mono ?_
  rintro e w2 ⟨⟨v, rfl, hv⟩, hb2⟩
  obtain rfl := HW.out _ hv
  clear HW hv
  obtain ⟨hc2, hf2⟩ := bcf hb2
  have HBE := Lib.hid (bthen (bal HB1.out _) hb2)
  have hz2 := hb2.size
  simp only [World.size_alloc] at hz2 hc2 hf2
  have p0 : ¬ w.heap.size = w2.heap.size := by omega
  have p4 : ¬ w.heap.size + 4 = w2.heap.size := by omega
  have l5 : w.heap.size < w1.heap.size + 1 := by omega
  have l6 : w.heap.size + 4 < w1.heap.size + 1 := by omega
  have l0 : w.heap.size < w2.heap.size := by omega
  have l4 : w.heap.size + 4 < w2.heap.size := by omega
  clear hb2 hz2
  have G := fun (j : Nat) (v : Value) (h : (#[Value.int .u32 f0, .int .u32 f1, .int .u32 f2, .int .u32 f3, .int .u32 f4, .int .u32 f5, .int .u32 f6, .int .u64 c, .int .u64 i] : Array Value)[j]? = some v) => (hc2 w.heap.size j l5).trans (show _ = some v by simp [go_sem, hc1, n0, m0, h])
  have R := fun (j : Nat) (v : Value) (h : (#[Value.int .u32 0, .int .u32 0, .int .u32 0, .int .u32 0, .int .u32 0, .int .u32 0, .int .u32 0, .int .u64 0, .int .u64 0] : Array Value)[j]? = some v) => (hc2 (w.heap.size + 4) j l6).trans (show _ = some v by simp [go_sem, hc1, n4, m4, h])
  have g0 := G 0 _ rfl
  have r0 := R 0 _ rfl
  have g1 := G 1 _ rfl
  have r1 := R 1 _ rfl
  have g2 := G 2 _ rfl
  have r2 := R 2 _ rfl
  have g3 := G 3 _ rfl
  have r3 := R 3 _ rfl
  have g4 := G 4 _ rfl
  have r4 := R 4 _ rfl
  have g5 := G 5 _ rfl
  have r5 := R 5 _ rfl
  have g6 := G 6 _ rfl
  have r6 := R 6 _ rfl
  have g7 := G 7 _ rfl
  have r7 := R 7 _ rfl
  have g8 := G 8 _ rfl
  have r8 := R 8 _ rfl
  have zg : ∀ j, w2.frozen? ⟨w.heap.size, j, none⟩ = false := fun j => (hf2 w.heap.size j l5).trans (by simp [go_sem, hf1, n0, m0])
  have zr : ∀ j, w2.frozen? ⟨w.heap.size + 4, j, none⟩ = false := fun j => (hf2 (w.heap.size + 4) j l6).trans (by simp [go_sem, hf1, n4, m4])
  have V := fun (j : Nat) (v : Value) (h : (#[Value.int .u64 t, .int .u64 r, .int .u64 ti, .int .u32 ca] : Array Value)[j]? = some v) => (hc2 (w.heap.size + 3) j (by omega)).trans (show _ = some v by simp [go_sem, hc1, n3, m3, h])
  have v0 := V 0 _ rfl
  have v1 := V 1 _ rfl
  have x0 := (hc2 (w.heap.size + 1) 0 (by omega)).trans (show _ = some (.int .i64 835) by simp [go_sem, hc1, n1, m1])
  have x1 := (hc2 (w.heap.size + 2) 0 (by omega)).trans (show _ = some (.int .u32 x) by simp [go_sem, hc1, n2, m2])
  clear hc1 hf1 hc2 hf2 G R V
  go_wp2
  refine bodyPost_ret (v := .tuple #[fileV f0 f1 f2 f3 f4 f5 y c i, .int .i64 0]) (by simp [results, Tryd.results27, go_sem, fileV, *]) rfl ⟨rfl, ?_⟩
  repeat (first | (with_reducible exact HBE.out) | (with_reducible refine bal ?_ _) | (with_reducible refine bset ?_ ?_ _; rotate_left; (simp <;> omega)) | (with_reducible refine Below.drew ?_) | (with_reducible refine bdn ?_ _))
set_option maxHeartbeats 16000000 in
set_option maxRecDepth 100000 in
theorem cwr_8 (x f0 f1 f2 f3 f4 f5 f6 c i t r ti ca : Int) (w : World) (hr : RowsIs w) :
    Calls Tryd.prog 27 #[.agg #[.int .u32 f0, .int .u32 f1, .int .u32 f2, .int .u32 f3, .int .u32 f4, .int .u32 f5, .int .u32 f6, .int .u64 c, .int .u64 i], .int .i64 836, .int .u32 x, .agg #[.int .u64 t, .int .u64 r, .int .u64 ti, .int .u32 ca]] w fun e w' =>
      e = .returned (.tuple #[fileV f0 f1 f2 f3 f4 f5 f6 c i, .int .i64 0]) ∧ Below w.heap.size w w' := by
  have HR := Lib.hid hr
  have HV := Lib.hid (fun (v : Value) (h' : FindIs 836 v) => (fast_dec.1 8 (by decide)) ▸ find_fast 8 (by decide) h')
  have hbw := bal (bal (bal (bal (bal (Below.refl w.heap.size w) (.cells #[.int .u32 f0, .int .u32 f1, .int .u32 f2, .int .u32 f3, .int .u32 f4, .int .u32 f5, .int .u32 f6, .int .u64 c, .int .u64 i] 47)) (.cells #[.int .i64 836] 3)) (.cells #[.int .u32 x] 22)) (.cells #[.int .u64 t, .int .u64 r, .int .u64 ti, .int .u32 ca] 51)) (.cells #[.int .u32 0, .int .u32 0, .int .u32 0, .int .u32 0, .int .u32 0, .int .u32 0, .int .u32 0, .int .u64 0, .int .u64 0] 47)
  have HBW := Lib.hid hbw
  clear hr hbw
  go_enter Tryd.func27, Tryd.ntmps27
  go_wp2_with fail
  refine (find_c _ _ (HR.out.below HBW.out)).mono ?_
  rintro e w1 ⟨⟨v, rfl, hv⟩, hb1⟩
  obtain ⟨s, ka, fi, rfl⟩ := HV.out _ hv
  clear HV hv
  obtain ⟨hc1, hf1⟩ := bcf hb1
  have HB1 := Lib.hid (bthen HBW.out hb1)
  have hz1 := hb1.size
  simp only [World.size_alloc] at hz1
  have n0 : ¬ w.heap.size = w1.heap.size := by omega
  have n1 : ¬ w.heap.size + 1 = w1.heap.size := by omega
  have n2 : ¬ w.heap.size + 2 = w1.heap.size := by omega
  have n3 : ¬ w.heap.size + 3 = w1.heap.size := by omega
  have n4 : ¬ w.heap.size + 4 = w1.heap.size := by omega
  have m0 : w.heap.size < w1.heap.size := by omega
  have m1 : w.heap.size + 1 < w1.heap.size := by omega
  have m2 : w.heap.size + 2 < w1.heap.size := by omega
  have m3 : w.heap.size + 3 < w1.heap.size := by omega
  have m4 : w.heap.size + 4 < w1.heap.size := by omega
  clear hb1 hz1
  go_wp2_with (go_at_call 57; refine (kept_c _ _ _).mono ?_; rintro e w' ⟨rfl, rfl⟩; simp only [kept_nums])
  refine (counted_c w.heap.size _ c i t r ti ca _ (by simp [go_sem, hc1, n0, m0]) (by simp [go_sem, hc1, n0, m0])).mono ?_
  rintro e w2 ⟨rfl, hb2⟩
  simp only [an_nums, cnt_nums, cntb_nums]
  obtain ⟨hc2, hf2⟩ := bcf hb2
  have HBE := Lib.hid (bthen (bal HB1.out _) hb2)
  have hz2 := hb2.size
  simp only [World.size_alloc] at hz2 hc2 hf2
  have p0 : ¬ w.heap.size = w2.heap.size := by omega
  have p4 : ¬ w.heap.size + 4 = w2.heap.size := by omega
  have l5 : w.heap.size < w1.heap.size + 1 := by omega
  have l6 : w.heap.size + 4 < w1.heap.size + 1 := by omega
  have l7 : w.heap.size + 1 < w1.heap.size + 1 := by omega
  have l8 : w.heap.size + 2 < w1.heap.size + 1 := by omega
  have l9 : w.heap.size + 3 < w1.heap.size + 1 := by omega
  have l0 : w.heap.size < w2.heap.size := by omega
  have l1 : w.heap.size + 1 < w2.heap.size := by omega
  have l2 : w.heap.size + 2 < w2.heap.size := by omega
  have l3 : w.heap.size + 3 < w2.heap.size := by omega
  have l4 : w.heap.size + 4 < w2.heap.size := by omega
  clear hb2 hz2
  have G := fun (j : Nat) (v : Value) (h : (#[Value.int .u32 f0, .int .u32 f1, .int .u32 f2, .int .u32 f3, .int .u32 f4, .int .u32 f5, .int .u32 f6, .int .u64 c, .int .u64 i] : Array Value)[j]? = some v) => (hc2 w.heap.size j l5).trans (show _ = some v by simp [go_sem, hc1, n0, m0, h])
  have R := fun (j : Nat) (v : Value) (h : (#[Value.int .u32 0, .int .u32 0, .int .u32 0, .int .u32 0, .int .u32 0, .int .u32 0, .int .u32 0, .int .u64 0, .int .u64 0] : Array Value)[j]? = some v) => (hc2 (w.heap.size + 4) j l6).trans (show _ = some v by simp [go_sem, hc1, n4, m4, h])
  have g0 := G 0 _ rfl
  have r0 := R 0 _ rfl
  have g1 := G 1 _ rfl
  have r1 := R 1 _ rfl
  have g2 := G 2 _ rfl
  have r2 := R 2 _ rfl
  have g3 := G 3 _ rfl
  have r3 := R 3 _ rfl
  have g4 := G 4 _ rfl
  have r4 := R 4 _ rfl
  have g5 := G 5 _ rfl
  have r5 := R 5 _ rfl
  have g6 := G 6 _ rfl
  have r6 := R 6 _ rfl
  have g7 := G 7 _ rfl
  have r7 := R 7 _ rfl
  have g8 := G 8 _ rfl
  have r8 := R 8 _ rfl
  have zg : ∀ j, w2.frozen? ⟨w.heap.size, j, none⟩ = false := fun j => (hf2 w.heap.size j l5).trans (by simp [go_sem, hf1, n0, m0])
  have zr : ∀ j, w2.frozen? ⟨w.heap.size + 4, j, none⟩ = false := fun j => (hf2 (w.heap.size + 4) j l6).trans (by simp [go_sem, hf1, n4, m4])
  have V := fun (j : Nat) (v : Value) (h : (#[Value.int .u64 t, .int .u64 r, .int .u64 ti, .int .u32 ca] : Array Value)[j]? = some v) => (hc2 (w.heap.size + 3) j (by omega)).trans (show _ = some v by simp [go_sem, hc1, n3, m3, h])
  have v0 := V 0 _ rfl
  have v1 := V 1 _ rfl
  have x0 := (hc2 (w.heap.size + 1) 0 (by omega)).trans (show _ = some (.int .i64 836) by simp [go_sem, hc1, n1, m1])
  have x1 := (hc2 (w.heap.size + 2) 0 (by omega)).trans (show _ = some (.int .u32 x) by simp [go_sem, hc1, n2, m2])
  clear hc1 hf1 hc2 hf2 G R V
  go_wp2
  refine bodyPost_ret (v := .tuple #[fileV f0 f1 f2 f3 f4 f5 f6 c i, .int .i64 0]) (by simp [results, Tryd.results27, go_sem, fileV, *]) rfl ⟨rfl, ?_⟩
  repeat (first | (with_reducible exact HBE.out) | (with_reducible refine bal ?_ _) | (with_reducible refine bset ?_ ?_ _; rotate_left; (simp <;> omega)) | (with_reducible refine Below.drew ?_) | (with_reducible refine bdn ?_ _))
set_option maxHeartbeats 16000000 in
set_option maxRecDepth 100000 in
theorem cwr_9 (x f0 f1 f2 f3 f4 f5 f6 c i t r ti ca : Int) (hx : 0 ≤ x ∧ x ≤ 4294967295) (w : World) (hr : RowsIs w) :
    Calls Tryd.prog 27 #[.agg #[.int .u32 f0, .int .u32 f1, .int .u32 f2, .int .u32 f3, .int .u32 f4, .int .u32 f5, .int .u32 f6, .int .u64 c, .int .u64 i], .int .i64 2816, .int .u32 x, .agg #[.int .u64 t, .int .u64 r, .int .u64 ti, .int .u32 ca]] w fun e w' =>
      e = .returned (.tuple #[fileV f0 f1 f2 f3 f4 f5 f6 (IntKind.u64.wrap (IntKind.u64.wrap (putV false (IntKind.u64.wrap (t + c)) x - t) - 1)) i, .int .i64 0]) ∧ Below w.heap.size w w' := by
  have HR := Lib.hid hr
  have HV := Lib.hid (fun (v : Value) (h' : FindIs 2816 v) => (fast_dec.1 9 (by decide)) ▸ find_fast 9 (by decide) h')
  have hN := wrap64_rng (t + c)
  have HP := Lib.hid (fun b1 b2 v => put_lo 2816 (IntKind.u64.wrap (t + c)) x b1 b2 (by decide +kernel) hN hx v)
  clear hN hx
  generalize putV false (IntKind.u64.wrap (t + c)) x = y at *
  have hbw := bal (bal (bal (bal (bal (Below.refl w.heap.size w) (.cells #[.int .u32 f0, .int .u32 f1, .int .u32 f2, .int .u32 f3, .int .u32 f4, .int .u32 f5, .int .u32 f6, .int .u64 c, .int .u64 i] 47)) (.cells #[.int .i64 2816] 3)) (.cells #[.int .u32 x] 22)) (.cells #[.int .u64 t, .int .u64 r, .int .u64 ti, .int .u32 ca] 51)) (.cells #[.int .u32 0, .int .u32 0, .int .u32 0, .int .u32 0, .int .u32 0, .int .u32 0, .int .u32 0, .int .u64 0, .int .u64 0] 47)
  have HBW := Lib.hid hbw
  clear hr hbw
  go_enter Tryd.func27, Tryd.ntmps27
  go_wp2_with fail
  refine (find_c _ _ (HR.out.below HBW.out)).mono ?_
  rintro e w1 ⟨⟨v, rfl, hv⟩, hb1⟩
  obtain ⟨s, ka, fi, rfl⟩ := HV.out _ hv
  clear HV hv
  obtain ⟨hc1, hf1⟩ := bcf hb1
  have HB1 := Lib.hid (bthen HBW.out hb1)
  have hz1 := hb1.size
  simp only [World.size_alloc] at hz1
  have n0 : ¬ w.heap.size = w1.heap.size := by omega
  have n1 : ¬ w.heap.size + 1 = w1.heap.size := by omega
  have n2 : ¬ w.heap.size + 2 = w1.heap.size := by omega
  have n3 : ¬ w.heap.size + 3 = w1.heap.size := by omega
  have n4 : ¬ w.heap.size + 4 = w1.heap.size := by omega
  have m0 : w.heap.size < w1.heap.size := by omega
  have m1 : w.heap.size + 1 < w1.heap.size := by omega
  have m2 : w.heap.size + 2 < w1.heap.size := by omega
  have m3 : w.heap.size + 3 < w1.heap.size := by omega
  have m4 : w.heap.size + 4 < w1.heap.size := by omega
  clear hb1 hz1
  go_wp2_with (go_at_call 57; refine (kept_c _ _ _).mono ?_; rintro e w' ⟨rfl, rfl⟩; simp only [kept_nums])
  refine (counted_c w.heap.size _ c i t r ti ca _ (by simp [go_sem, hc1, n0, m0]) (by simp [go_sem, hc1, n0, m0])).mono ?_
  rintro e w2 ⟨rfl, hb2⟩
  simp only [an_nums, cnt_nums, cntb_nums]
  obtain ⟨hc2, hf2⟩ := bcf hb2
  have HBE := Lib.hid (bthen (bal HB1.out _) hb2)
  have hz2 := hb2.size
  simp only [World.size_alloc] at hz2 hc2 hf2
  have p0 : ¬ w.heap.size = w2.heap.size := by omega
  have p4 : ¬ w.heap.size + 4 = w2.heap.size := by omega
  have l5 : w.heap.size < w1.heap.size + 1 := by omega
  have l6 : w.heap.size + 4 < w1.heap.size + 1 := by omega
  have l7 : w.heap.size + 1 < w1.heap.size + 1 := by omega
  have l8 : w.heap.size + 2 < w1.heap.size + 1 := by omega
  have l9 : w.heap.size + 3 < w1.heap.size + 1 := by omega
  have l0 : w.heap.size < w2.heap.size := by omega
  have l1 : w.heap.size + 1 < w2.heap.size := by omega
  have l2 : w.heap.size + 2 < w2.heap.size := by omega
  have l3 : w.heap.size + 3 < w2.heap.size := by omega
  have l4 : w.heap.size + 4 < w2.heap.size := by omega
  clear hb2 hz2
  have G := fun (j : Nat) (v : Value) (h : (#[Value.int .u32 f0, .int .u32 f1, .int .u32 f2, .int .u32 f3, .int .u32 f4, .int .u32 f5, .int .u32 f6, .int .u64 c, .int .u64 i] : Array Value)[j]? = some v) => (hc2 w.heap.size j l5).trans (show _ = some v by simp [go_sem, hc1, n0, m0, h])
  have R := fun (j : Nat) (v : Value) (h : (#[Value.int .u32 0, .int .u32 0, .int .u32 0, .int .u32 0, .int .u32 0, .int .u32 0, .int .u32 0, .int .u64 0, .int .u64 0] : Array Value)[j]? = some v) => (hc2 (w.heap.size + 4) j l6).trans (show _ = some v by simp [go_sem, hc1, n4, m4, h])
  have g0 := G 0 _ rfl
  have r0 := R 0 _ rfl
  have g1 := G 1 _ rfl
  have r1 := R 1 _ rfl
  have g2 := G 2 _ rfl
  have r2 := R 2 _ rfl
  have g3 := G 3 _ rfl
  have r3 := R 3 _ rfl
  have g4 := G 4 _ rfl
  have r4 := R 4 _ rfl
  have g5 := G 5 _ rfl
  have r5 := R 5 _ rfl
  have g6 := G 6 _ rfl
  have r6 := R 6 _ rfl
  have g7 := G 7 _ rfl
  have r7 := R 7 _ rfl
  have g8 := G 8 _ rfl
  have r8 := R 8 _ rfl
  have zg : ∀ j, w2.frozen? ⟨w.heap.size, j, none⟩ = false := fun j => (hf2 w.heap.size j l5).trans (by simp [go_sem, hf1, n0, m0])
  have zr : ∀ j, w2.frozen? ⟨w.heap.size + 4, j, none⟩ = false := fun j => (hf2 (w.heap.size + 4) j l6).trans (by simp [go_sem, hf1, n4, m4])
  have V := fun (j : Nat) (v : Value) (h : (#[Value.int .u64 t, .int .u64 r, .int .u64 ti, .int .u32 ca] : Array Value)[j]? = some v) => (hc2 (w.heap.size + 3) j (by omega)).trans (show _ = some v by simp [go_sem, hc1, n3, m3, h])
  have v0 := V 0 _ rfl
  have v1 := V 1 _ rfl
  have x0 := (hc2 (w.heap.size + 1) 0 (by omega)).trans (show _ = some (.int .i64 2816) by simp [go_sem, hc1, n1, m1])
  have x1 := (hc2 (w.heap.size + 2) 0 (by omega)).trans (show _ = some (.int .u32 x) by simp [go_sem, hc1, n2, m2])
  clear hc1 hf1 hc2 hf2 G R V
  have hmf := fun (fn : Fn) (first cap : Array Value) (W : World) => mhmf fn first cap W
  have an : bits .andNot .i64 2816 128 = 2816 := by decide +kernel
  go_wp2
  go_region_with (first | (go_at_call 60; refine (HP.out _ _ _ (by first | exact x0 | simpa [go_sem] using x0) (by first | exact x1 | simpa [go_sem] using x1)).mono ?_; rintro e w' ⟨rfl, rfl⟩))
  all_goals
    go_wp2
    refine bodyPost_ret (v := .tuple #[fileV f0 f1 f2 f3 f4 f5 f6 (IntKind.u64.wrap (IntKind.u64.wrap (y - t) - 1)) i, .int .i64 0]) (by simp [results, Tryd.results27, go_sem, fileV, *]) rfl ⟨rfl, ?_⟩
    repeat (first | (with_reducible exact HBE.out) | (with_reducible refine bal ?_ _) | (with_reducible refine bset ?_ ?_ _; rotate_left; (simp <;> omega)) | (with_reducible refine Below.drew ?_) | (with_reducible refine bdn ?_ _))
set_option maxHeartbeats 16000000 in
set_option maxRecDepth 100000 in
theorem cwr_10 (x f0 f1 f2 f3 f4 f5 f6 c i t r ti ca : Int) (hx : 0 ≤ x ∧ x ≤ 4294967295) (w : World) (hr : RowsIs w) :
    Calls Tryd.prog 27 #[.agg #[.int .u32 f0, .int .u32 f1, .int .u32 f2, .int .u32 f3, .int .u32 f4, .int .u32 f5, .int .u32 f6, .int .u64 c, .int .u64 i], .int .i64 2818, .int .u32 x, .agg #[.int .u64 t, .int .u64 r, .int .u64 ti, .int .u32 ca]] w fun e w' =>
      e = .returned (.tuple #[fileV f0 f1 f2 f3 f4 f5 f6 c (IntKind.u64.wrap (IntKind.u64.wrap (putV false (IntKind.u64.wrap (r + i)) x - r) - 1)), .int .i64 0]) ∧ Below w.heap.size w w' := by
  have HR := Lib.hid hr
  have HV := Lib.hid (fun (v : Value) (h' : FindIs 2818 v) => (fast_dec.1 10 (by decide)) ▸ find_fast 10 (by decide) h')
  have hN := wrap64_rng (r + i)
  have HP := Lib.hid (fun b1 b2 v => put_lo 2818 (IntKind.u64.wrap (r + i)) x b1 b2 (by decide +kernel) hN hx v)
  clear hN hx
  generalize putV false (IntKind.u64.wrap (r + i)) x = y at *
  have hbw := bal (bal (bal (bal (bal (Below.refl w.heap.size w) (.cells #[.int .u32 f0, .int .u32 f1, .int .u32 f2, .int .u32 f3, .int .u32 f4, .int .u32 f5, .int .u32 f6, .int .u64 c, .int .u64 i] 47)) (.cells #[.int .i64 2818] 3)) (.cells #[.int .u32 x] 22)) (.cells #[.int .u64 t, .int .u64 r, .int .u64 ti, .int .u32 ca] 51)) (.cells #[.int .u32 0, .int .u32 0, .int .u32 0, .int .u32 0, .int .u32 0, .int .u32 0, .int .u32 0, .int .u64 0, .int .u64 0] 47)
  have HBW := Lib.hid hbw
  clear hr hbw
  go_enter Tryd.func27, Tryd.ntmps27
  go_wp2_with fail
  refine (find_c _ _ (HR.out.below HBW.out)).mono ?_
  rintro e w1 ⟨⟨v, rfl, hv⟩, hb1⟩
  obtain ⟨s, ka, fi, rfl⟩ := HV.out _ hv
  clear HV hv
  obtain ⟨hc1, hf1⟩ := bcf hb1
  have HB1 := Lib.hid (bthen HBW.out hb1)
  have hz1 := hb1.size
  simp only [World.size_alloc] at hz1
  have n0 : ¬ w.heap.size = w1.heap.size := by omega
  have n1 : ¬ w.heap.size + 1 = w1.heap.size := by omega
  have n2 : ¬ w.heap.size + 2 = w1.heap.size := by omega
  have n3 : ¬ w.heap.size + 3 = w1.heap.size := by omega
  have n4 : ¬ w.heap.size + 4 = w1.heap.size := by omega
  have m0 : w.heap.size < w1.heap.size := by omega
  have m1 : w.heap.size + 1 < w1.heap.size := by omega
  have m2 : w.heap.size + 2 < w1.heap.size := by omega
  have m3 : w.heap.size + 3 < w1.heap.size := by omega
  have m4 : w.heap.size + 4 < w1.heap.size := by omega
  clear hb1 hz1
  go_wp2_with (go_at_call 57; refine (kept_c _ _ _).mono ?_; rintro e w' ⟨rfl, rfl⟩; simp only [kept_nums])
  refine (counted_c w.heap.size _ c i t r ti ca _ (by simp [go_sem, hc1, n0, m0]) (by simp [go_sem, hc1, n0, m0])).mono ?_
  rintro e w2 ⟨rfl, hb2⟩
  simp only [an_nums, cnt_nums, cntb_nums]
  obtain ⟨hc2, hf2⟩ := bcf hb2
  have HBE := Lib.hid (bthen (bal HB1.out _) hb2)
  have hz2 := hb2.size
  simp only [World.size_alloc] at hz2 hc2 hf2
  have p0 : ¬ w.heap.size = w2.heap.size := by omega
  have p4 : ¬ w.heap.size + 4 = w2.heap.size := by omega
  have l5 : w.heap.size < w1.heap.size + 1 := by omega
  have l6 : w.heap.size + 4 < w1.heap.size + 1 := by omega
  have l7 : w.heap.size + 1 < w1.heap.size + 1 := by omega
  have l8 : w.heap.size + 2 < w1.heap.size + 1 := by omega
  have l9 : w.heap.size + 3 < w1.heap.size + 1 := by omega
  have l0 : w.heap.size < w2.heap.size := by omega
  have l1 : w.heap.size + 1 < w2.heap.size := by omega
  have l2 : w.heap.size + 2 < w2.heap.size := by omega
  have l3 : w.heap.size + 3 < w2.heap.size := by omega
  have l4 : w.heap.size + 4 < w2.heap.size := by omega
  clear hb2 hz2
  have G := fun (j : Nat) (v : Value) (h : (#[Value.int .u32 f0, .int .u32 f1, .int .u32 f2, .int .u32 f3, .int .u32 f4, .int .u32 f5, .int .u32 f6, .int .u64 c, .int .u64 i] : Array Value)[j]? = some v) => (hc2 w.heap.size j l5).trans (show _ = some v by simp [go_sem, hc1, n0, m0, h])
  have R := fun (j : Nat) (v : Value) (h : (#[Value.int .u32 0, .int .u32 0, .int .u32 0, .int .u32 0, .int .u32 0, .int .u32 0, .int .u32 0, .int .u64 0, .int .u64 0] : Array Value)[j]? = some v) => (hc2 (w.heap.size + 4) j l6).trans (show _ = some v by simp [go_sem, hc1, n4, m4, h])
  have g0 := G 0 _ rfl
  have r0 := R 0 _ rfl
  have g1 := G 1 _ rfl
  have r1 := R 1 _ rfl
  have g2 := G 2 _ rfl
  have r2 := R 2 _ rfl
  have g3 := G 3 _ rfl
  have r3 := R 3 _ rfl
  have g4 := G 4 _ rfl
  have r4 := R 4 _ rfl
  have g5 := G 5 _ rfl
  have r5 := R 5 _ rfl
  have g6 := G 6 _ rfl
  have r6 := R 6 _ rfl
  have g7 := G 7 _ rfl
  have r7 := R 7 _ rfl
  have g8 := G 8 _ rfl
  have r8 := R 8 _ rfl
  have zg : ∀ j, w2.frozen? ⟨w.heap.size, j, none⟩ = false := fun j => (hf2 w.heap.size j l5).trans (by simp [go_sem, hf1, n0, m0])
  have zr : ∀ j, w2.frozen? ⟨w.heap.size + 4, j, none⟩ = false := fun j => (hf2 (w.heap.size + 4) j l6).trans (by simp [go_sem, hf1, n4, m4])
  have V := fun (j : Nat) (v : Value) (h : (#[Value.int .u64 t, .int .u64 r, .int .u64 ti, .int .u32 ca] : Array Value)[j]? = some v) => (hc2 (w.heap.size + 3) j (by omega)).trans (show _ = some v by simp [go_sem, hc1, n3, m3, h])
  have v0 := V 0 _ rfl
  have v1 := V 1 _ rfl
  have x0 := (hc2 (w.heap.size + 1) 0 (by omega)).trans (show _ = some (.int .i64 2818) by simp [go_sem, hc1, n1, m1])
  have x1 := (hc2 (w.heap.size + 2) 0 (by omega)).trans (show _ = some (.int .u32 x) by simp [go_sem, hc1, n2, m2])
  clear hc1 hf1 hc2 hf2 G R V
  have hmf := fun (fn : Fn) (first cap : Array Value) (W : World) => mhmf fn first cap W
  have an : bits .andNot .i64 2818 128 = 2818 := by decide +kernel
  go_wp2
  go_region_with (first | (go_at_call 60; refine (HP.out _ _ _ (by first | exact x0 | simpa [go_sem] using x0) (by first | exact x1 | simpa [go_sem] using x1)).mono ?_; rintro e w' ⟨rfl, rfl⟩))
  all_goals
    go_wp2
    refine bodyPost_ret (v := .tuple #[fileV f0 f1 f2 f3 f4 f5 f6 c (IntKind.u64.wrap (IntKind.u64.wrap (y - r) - 1)), .int .i64 0]) (by simp [results, Tryd.results27, go_sem, fileV, *]) rfl ⟨rfl, ?_⟩
    repeat (first | (with_reducible exact HBE.out) | (with_reducible refine bal ?_ _) | (with_reducible refine bset ?_ ?_ _; rotate_left; (simp <;> omega)) | (with_reducible refine Below.drew ?_) | (with_reducible refine bdn ?_ _))
set_option maxHeartbeats 16000000 in
set_option maxRecDepth 100000 in
theorem cwr_11 (x f0 f1 f2 f3 f4 f5 f6 c i t r ti ca : Int) (hx : 0 ≤ x ∧ x ≤ 4294967295) (w : World) (hr : RowsIs w) :
    Calls Tryd.prog 27 #[.agg #[.int .u32 f0, .int .u32 f1, .int .u32 f2, .int .u32 f3, .int .u32 f4, .int .u32 f5, .int .u32 f6, .int .u64 c, .int .u64 i], .int .i64 2944, .int .u32 x, .agg #[.int .u64 t, .int .u64 r, .int .u64 ti, .int .u32 ca]] w fun e w' =>
      e = .returned (.tuple #[fileV f0 f1 f2 f3 f4 f5 f6 (IntKind.u64.wrap (IntKind.u64.wrap (putV true (IntKind.u64.wrap (t + c)) x - t) - 1)) i, .int .i64 0]) ∧ Below w.heap.size w w' := by
  have HR := Lib.hid hr
  have HV := Lib.hid (fun (v : Value) (h' : FindIs 2944 v) => (fast_dec.1 11 (by decide)) ▸ find_fast 11 (by decide) h')
  have hN := wrap64_rng (t + c)
  have HP := Lib.hid (fun b1 b2 v => put_hi 2944 (IntKind.u64.wrap (t + c)) x b1 b2 (by decide +kernel) hN hx v)
  clear hN hx
  generalize putV true (IntKind.u64.wrap (t + c)) x = y at *
  have hbw := bal (bal (bal (bal (bal (Below.refl w.heap.size w) (.cells #[.int .u32 f0, .int .u32 f1, .int .u32 f2, .int .u32 f3, .int .u32 f4, .int .u32 f5, .int .u32 f6, .int .u64 c, .int .u64 i] 47)) (.cells #[.int .i64 2944] 3)) (.cells #[.int .u32 x] 22)) (.cells #[.int .u64 t, .int .u64 r, .int .u64 ti, .int .u32 ca] 51)) (.cells #[.int .u32 0, .int .u32 0, .int .u32 0, .int .u32 0, .int .u32 0, .int .u32 0, .int .u32 0, .int .u64 0, .int .u64 0] 47)
  have HBW := Lib.hid hbw
  clear hr hbw
  go_enter Tryd.func27, Tryd.ntmps27
  go_wp2_with fail
  refine (find_c _ _ (HR.out.below HBW.out)).mono ?_
  rintro e w1 ⟨⟨v, rfl, hv⟩, hb1⟩
  obtain ⟨s, ka, fi, rfl⟩ := HV.out _ hv
  clear HV hv
  obtain ⟨hc1, hf1⟩ := bcf hb1
  have HB1 := Lib.hid (bthen HBW.out hb1)
  have hz1 := hb1.size
  simp only [World.size_alloc] at hz1
  have n0 : ¬ w.heap.size = w1.heap.size := by omega
  have n1 : ¬ w.heap.size + 1 = w1.heap.size := by omega
  have n2 : ¬ w.heap.size + 2 = w1.heap.size := by omega
  have n3 : ¬ w.heap.size + 3 = w1.heap.size := by omega
  have n4 : ¬ w.heap.size + 4 = w1.heap.size := by omega
  have m0 : w.heap.size < w1.heap.size := by omega
  have m1 : w.heap.size + 1 < w1.heap.size := by omega
  have m2 : w.heap.size + 2 < w1.heap.size := by omega
  have m3 : w.heap.size + 3 < w1.heap.size := by omega
  have m4 : w.heap.size + 4 < w1.heap.size := by omega
  clear hb1 hz1
  go_wp2_with (go_at_call 57; refine (kept_c _ _ _).mono ?_; rintro e w' ⟨rfl, rfl⟩; simp only [kept_nums])
  refine (counted_c w.heap.size _ c i t r ti ca _ (by simp [go_sem, hc1, n0, m0]) (by simp [go_sem, hc1, n0, m0])).mono ?_
  rintro e w2 ⟨rfl, hb2⟩
  simp only [an_nums, cnt_nums, cntb_nums]
  obtain ⟨hc2, hf2⟩ := bcf hb2
  have HBE := Lib.hid (bthen (bal HB1.out _) hb2)
  have hz2 := hb2.size
  simp only [World.size_alloc] at hz2 hc2 hf2
  have p0 : ¬ w.heap.size = w2.heap.size := by omega
  have p4 : ¬ w.heap.size + 4 = w2.heap.size := by omega
  have l5 : w.heap.size < w1.heap.size + 1 := by omega
  have l6 : w.heap.size + 4 < w1.heap.size + 1 := by omega
  have l7 : w.heap.size + 1 < w1.heap.size + 1 := by omega
  have l8 : w.heap.size + 2 < w1.heap.size + 1 := by omega
  have l9 : w.heap.size + 3 < w1.heap.size + 1 := by omega
  have l0 : w.heap.size < w2.heap.size := by omega
  have l1 : w.heap.size + 1 < w2.heap.size := by omega
  have l2 : w.heap.size + 2 < w2.heap.size := by omega
  have l3 : w.heap.size + 3 < w2.heap.size := by omega
  have l4 : w.heap.size + 4 < w2.heap.size := by omega
  clear hb2 hz2
  have G := fun (j : Nat) (v : Value) (h : (#[Value.int .u32 f0, .int .u32 f1, .int .u32 f2, .int .u32 f3, .int .u32 f4, .int .u32 f5, .int .u32 f6, .int .u64 c, .int .u64 i] : Array Value)[j]? = some v) => (hc2 w.heap.size j l5).trans (show _ = some v by simp [go_sem, hc1, n0, m0, h])
  have R := fun (j : Nat) (v : Value) (h : (#[Value.int .u32 0, .int .u32 0, .int .u32 0, .int .u32 0, .int .u32 0, .int .u32 0, .int .u32 0, .int .u64 0, .int .u64 0] : Array Value)[j]? = some v) => (hc2 (w.heap.size + 4) j l6).trans (show _ = some v by simp [go_sem, hc1, n4, m4, h])
  have g0 := G 0 _ rfl
  have r0 := R 0 _ rfl
  have g1 := G 1 _ rfl
  have r1 := R 1 _ rfl
  have g2 := G 2 _ rfl
  have r2 := R 2 _ rfl
  have g3 := G 3 _ rfl
  have r3 := R 3 _ rfl
  have g4 := G 4 _ rfl
  have r4 := R 4 _ rfl
  have g5 := G 5 _ rfl
  have r5 := R 5 _ rfl
  have g6 := G 6 _ rfl
  have r6 := R 6 _ rfl
  have g7 := G 7 _ rfl
  have r7 := R 7 _ rfl
  have g8 := G 8 _ rfl
  have r8 := R 8 _ rfl
  have zg : ∀ j, w2.frozen? ⟨w.heap.size, j, none⟩ = false := fun j => (hf2 w.heap.size j l5).trans (by simp [go_sem, hf1, n0, m0])
  have zr : ∀ j, w2.frozen? ⟨w.heap.size + 4, j, none⟩ = false := fun j => (hf2 (w.heap.size + 4) j l6).trans (by simp [go_sem, hf1, n4, m4])
  have V := fun (j : Nat) (v : Value) (h : (#[Value.int .u64 t, .int .u64 r, .int .u64 ti, .int .u32 ca] : Array Value)[j]? = some v) => (hc2 (w.heap.size + 3) j (by omega)).trans (show _ = some v by simp [go_sem, hc1, n3, m3, h])
  have v0 := V 0 _ rfl
  have v1 := V 1 _ rfl
  have x0 := (hc2 (w.heap.size + 1) 0 (by omega)).trans (show _ = some (.int .i64 2944) by simp [go_sem, hc1, n1, m1])
  have x1 := (hc2 (w.heap.size + 2) 0 (by omega)).trans (show _ = some (.int .u32 x) by simp [go_sem, hc1, n2, m2])
  clear hc1 hf1 hc2 hf2 G R V
  have hmf := fun (fn : Fn) (first cap : Array Value) (W : World) => mhmf fn first cap W
  have an : bits .andNot .i64 2944 128 = 2816 := by decide +kernel
  go_wp2
  go_region_with (first | (go_at_call 60; refine (HP.out _ _ _ (by first | exact x0 | simpa [go_sem] using x0) (by first | exact x1 | simpa [go_sem] using x1)).mono ?_; rintro e w' ⟨rfl, rfl⟩))
  all_goals
    go_wp2
    refine bodyPost_ret (v := .tuple #[fileV f0 f1 f2 f3 f4 f5 f6 (IntKind.u64.wrap (IntKind.u64.wrap (y - t) - 1)) i, .int .i64 0]) (by simp [results, Tryd.results27, go_sem, fileV, *]) rfl ⟨rfl, ?_⟩
    repeat (first | (with_reducible exact HBE.out) | (with_reducible refine bal ?_ _) | (with_reducible refine bset ?_ ?_ _; rotate_left; (simp <;> omega)) | (with_reducible refine Below.drew ?_) | (with_reducible refine bdn ?_ _))
set_option maxHeartbeats 16000000 in
set_option maxRecDepth 100000 in
theorem cwr_12 (x f0 f1 f2 f3 f4 f5 f6 c i t r ti ca : Int) (hx : 0 ≤ x ∧ x ≤ 4294967295) (w : World) (hr : RowsIs w) :
    Calls Tryd.prog 27 #[.agg #[.int .u32 f0, .int .u32 f1, .int .u32 f2, .int .u32 f3, .int .u32 f4, .int .u32 f5, .int .u32 f6, .int .u64 c, .int .u64 i], .int .i64 2946, .int .u32 x, .agg #[.int .u64 t, .int .u64 r, .int .u64 ti, .int .u32 ca]] w fun e w' =>
      e = .returned (.tuple #[fileV f0 f1 f2 f3 f4 f5 f6 c (IntKind.u64.wrap (IntKind.u64.wrap (putV true (IntKind.u64.wrap (r + i)) x - r) - 1)), .int .i64 0]) ∧ Below w.heap.size w w' := by
  have HR := Lib.hid hr
  have HV := Lib.hid (fun (v : Value) (h' : FindIs 2946 v) => (fast_dec.1 12 (by decide)) ▸ find_fast 12 (by decide) h')
  have hN := wrap64_rng (r + i)
  have HP := Lib.hid (fun b1 b2 v => put_hi 2946 (IntKind.u64.wrap (r + i)) x b1 b2 (by decide +kernel) hN hx v)
  clear hN hx
  generalize putV true (IntKind.u64.wrap (r + i)) x = y at *
  have hbw := bal (bal (bal (bal (bal (Below.refl w.heap.size w) (.cells #[.int .u32 f0, .int .u32 f1, .int .u32 f2, .int .u32 f3, .int .u32 f4, .int .u32 f5, .int .u32 f6, .int .u64 c, .int .u64 i] 47)) (.cells #[.int .i64 2946] 3)) (.cells #[.int .u32 x] 22)) (.cells #[.int .u64 t, .int .u64 r, .int .u64 ti, .int .u32 ca] 51)) (.cells #[.int .u32 0, .int .u32 0, .int .u32 0, .int .u32 0, .int .u32 0, .int .u32 0, .int .u32 0, .int .u64 0, .int .u64 0] 47)
  have HBW := Lib.hid hbw
  clear hr hbw
  go_enter Tryd.func27, Tryd.ntmps27
  go_wp2_with fail
  refine (find_c _ _ (HR.out.below HBW.out)).mono ?_
  rintro e w1 ⟨⟨v, rfl, hv⟩, hb1⟩
  obtain ⟨s, ka, fi, rfl⟩ := HV.out _ hv
  clear HV hv
  obtain ⟨hc1, hf1⟩ := bcf hb1
  have HB1 := Lib.hid (bthen HBW.out hb1)
  have hz1 := hb1.size
  simp only [World.size_alloc] at hz1
  have n0 : ¬ w.heap.size = w1.heap.size := by omega
  have n1 : ¬ w.heap.size + 1 = w1.heap.size := by omega
  have n2 : ¬ w.heap.size + 2 = w1.heap.size := by omega
  have n3 : ¬ w.heap.size + 3 = w1.heap.size := by omega
  have n4 : ¬ w.heap.size + 4 = w1.heap.size := by omega
  have m0 : w.heap.size < w1.heap.size := by omega
  have m1 : w.heap.size + 1 < w1.heap.size := by omega
  have m2 : w.heap.size + 2 < w1.heap.size := by omega
  have m3 : w.heap.size + 3 < w1.heap.size := by omega
  have m4 : w.heap.size + 4 < w1.heap.size := by omega
  clear hb1 hz1
  go_wp2_with (go_at_call 57; refine (kept_c _ _ _).mono ?_; rintro e w' ⟨rfl, rfl⟩; simp only [kept_nums])
  refine (counted_c w.heap.size _ c i t r ti ca _ (by simp [go_sem, hc1, n0, m0]) (by simp [go_sem, hc1, n0, m0])).mono ?_
  rintro e w2 ⟨rfl, hb2⟩
  simp only [an_nums, cnt_nums, cntb_nums]
  obtain ⟨hc2, hf2⟩ := bcf hb2
  have HBE := Lib.hid (bthen (bal HB1.out _) hb2)
  have hz2 := hb2.size
  simp only [World.size_alloc] at hz2 hc2 hf2
  have p0 : ¬ w.heap.size = w2.heap.size := by omega
  have p4 : ¬ w.heap.size + 4 = w2.heap.size := by omega
  have l5 : w.heap.size < w1.heap.size + 1 := by omega
  have l6 : w.heap.size + 4 < w1.heap.size + 1 := by omega
  have l7 : w.heap.size + 1 < w1.heap.size + 1 := by omega
  have l8 : w.heap.size + 2 < w1.heap.size + 1 := by omega
  have l9 : w.heap.size + 3 < w1.heap.size + 1 := by omega
  have l0 : w.heap.size < w2.heap.size := by omega
  have l1 : w.heap.size + 1 < w2.heap.size := by omega
  have l2 : w.heap.size + 2 < w2.heap.size := by omega
  have l3 : w.heap.size + 3 < w2.heap.size := by omega
  have l4 : w.heap.size + 4 < w2.heap.size := by omega
  clear hb2 hz2
  have G := fun (j : Nat) (v : Value) (h : (#[Value.int .u32 f0, .int .u32 f1, .int .u32 f2, .int .u32 f3, .int .u32 f4, .int .u32 f5, .int .u32 f6, .int .u64 c, .int .u64 i] : Array Value)[j]? = some v) => (hc2 w.heap.size j l5).trans (show _ = some v by simp [go_sem, hc1, n0, m0, h])
  have R := fun (j : Nat) (v : Value) (h : (#[Value.int .u32 0, .int .u32 0, .int .u32 0, .int .u32 0, .int .u32 0, .int .u32 0, .int .u32 0, .int .u64 0, .int .u64 0] : Array Value)[j]? = some v) => (hc2 (w.heap.size + 4) j l6).trans (show _ = some v by simp [go_sem, hc1, n4, m4, h])
  have g0 := G 0 _ rfl
  have r0 := R 0 _ rfl
  have g1 := G 1 _ rfl
  have r1 := R 1 _ rfl
  have g2 := G 2 _ rfl
  have r2 := R 2 _ rfl
  have g3 := G 3 _ rfl
  have r3 := R 3 _ rfl
  have g4 := G 4 _ rfl
  have r4 := R 4 _ rfl
  have g5 := G 5 _ rfl
  have r5 := R 5 _ rfl
  have g6 := G 6 _ rfl
  have r6 := R 6 _ rfl
  have g7 := G 7 _ rfl
  have r7 := R 7 _ rfl
  have g8 := G 8 _ rfl
  have r8 := R 8 _ rfl
  have zg : ∀ j, w2.frozen? ⟨w.heap.size, j, none⟩ = false := fun j => (hf2 w.heap.size j l5).trans (by simp [go_sem, hf1, n0, m0])
  have zr : ∀ j, w2.frozen? ⟨w.heap.size + 4, j, none⟩ = false := fun j => (hf2 (w.heap.size + 4) j l6).trans (by simp [go_sem, hf1, n4, m4])
  have V := fun (j : Nat) (v : Value) (h : (#[Value.int .u64 t, .int .u64 r, .int .u64 ti, .int .u32 ca] : Array Value)[j]? = some v) => (hc2 (w.heap.size + 3) j (by omega)).trans (show _ = some v by simp [go_sem, hc1, n3, m3, h])
  have v0 := V 0 _ rfl
  have v1 := V 1 _ rfl
  have x0 := (hc2 (w.heap.size + 1) 0 (by omega)).trans (show _ = some (.int .i64 2946) by simp [go_sem, hc1, n1, m1])
  have x1 := (hc2 (w.heap.size + 2) 0 (by omega)).trans (show _ = some (.int .u32 x) by simp [go_sem, hc1, n2, m2])
  clear hc1 hf1 hc2 hf2 G R V
  have hmf := fun (fn : Fn) (first cap : Array Value) (W : World) => mhmf fn first cap W
  have an : bits .andNot .i64 2946 128 = 2818 := by decide +kernel
  go_wp2
  go_region_with (first | (go_at_call 60; refine (HP.out _ _ _ (by first | exact x0 | simpa [go_sem] using x0) (by first | exact x1 | simpa [go_sem] using x1)).mono ?_; rintro e w' ⟨rfl, rfl⟩))
  all_goals
    go_wp2
    refine bodyPost_ret (v := .tuple #[fileV f0 f1 f2 f3 f4 f5 f6 c (IntKind.u64.wrap (IntKind.u64.wrap (y - r) - 1)), .int .i64 0]) (by simp [results, Tryd.results27, go_sem, fileV, *]) rfl ⟨rfl, ?_⟩
    repeat (first | (with_reducible exact HBE.out) | (with_reducible refine bal ?_ _) | (with_reducible refine bset ?_ ?_ _; rotate_left; (simp <;> omega)) | (with_reducible refine Below.drew ?_) | (with_reducible refine bdn ?_ _))
end Go.Proofs.YtnooikjkjcflbabDoor
