/- The walk of the law MaskFinds: it returns true. Conditions: the listed variable holds what the program's text lays in it. -/
import Derived.Test.YtnooikjkjcflbaaDoorMl
import Derived.Test.YtnooikjkjcflbaaDoorFx
namespace Go.Proofs.YtnooikjkjcflbaaDoor
open Go.RowKit
set_option linter.unusedVariables false
set_option linter.unusedSimpArgs false

theorem name_only : ∀ i, i < 23 → ∀ k, k < 23 → sB ⟨(rowAt k).name.toArray⟩ ⟨(rowAt i).name.toArray⟩ = true → k = i := by decide +kernel
theorem name_self : ∀ i, i < 23 → sB ⟨(rowAt i).name.toArray⟩ ⟨(rowAt i).name.toArray⟩ = true := by decide +kernel
theorem num_rng : ∀ k, k < 23 → 0 ≤ (rowAt k).num ∧ (rowAt k).num ≤ 4095 := by decide +kernel
theorem number_row {k : Nat} (hk : k < 23) {v : Value} (h : NumberIs ⟨(rowAt k).name.toArray⟩ v) : v = .tuple #[.int .i64 (rowAt k).num, .int .i64 0] := by
  rcases h with ⟨j, hj, hp, _, rfl⟩ | ⟨hn, _⟩
  · rw [name_only k hk j hj hp]
  · exact absurd (hn k hk) (fun h => absurd ((name_self k hk).symm.trans h) (by decide))
theorem fast_same (csr : Int) (h : 0 ≤ csr ∧ csr ≤ 4095) : (csr / 1024 % 4 == 3) = fastB csr := by
  unfold fastB
  rw [Bool.eq_iff_iff, beq_iff_eq, beq_iff_eq]; omega
set_option maxRecDepth 100000 in
set_option maxHeartbeats 4000000 in
theorem mfind_w (csr : Int) (w : World) (hr : RowsIs w) : Calls Tryd.prog 3 #[.int .i64 csr] w fun e w' => e = .returned (.bool true) ∧ Below w.heap.size w w' := by
  have HR := Lib.hid hr
  clear hr
  go_enter Tryd.func3, Tryd.ntmps3
  go_wp2_with fail
  refine (find_c csr _ HR.out).mono ?_
  rintro e w1 ⟨⟨v, rfl, hv⟩, hb1⟩
  have hz1 := hb1.size
  have HB1 := Lib.hid hb1
  clear hb1
  rcases hv with ⟨k, hk, hp, hn, rfl⟩ | ⟨hn, rfl⟩
  · have HFR := Lib.hid (show FirstRow (fun r => r.num == csr) (k : Int) from .inl ⟨k, hk, yb hp, hn, rfl⟩)
    have hk0 : ¬ (k : Int) < 0 := by omega
    have hrng := num_rng k hk
    have hfast := fast_same csr (hp ▸ hrng)
    have h0 := row_map (fun r => .string ⟨r.name.toArray⟩) k hk
    have h1 := row_map (fun r => .int .u32 r.kept) k hk
    have h2 := row_map (fun r => .int .u32 r.fixed) k hk
    have hnr := fun (v : Value) (h : NumberIs ⟨(rowAt k).name.toArray⟩ v) => number_row hk h
    rw [hp] at hnr hrng
    have HRG := Lib.hid hrng
    generalize hN : (rowsL.map fun r => Value.string ⟨r.name.toArray⟩) = LN at h0
    generalize hA : (rowsL.map fun r => Value.int .u32 r.kept) = LA at h1
    generalize hB : (rowsL.map fun r => Value.int .u32 r.fixed) = LB at h2
    have HKN := Lib.hid (fun v => hN ▸ rnames_c v)
    have HKA := Lib.hid (fun v => hA ▸ rkept_c v)
    have HKB := Lib.hid (fun v => hB ▸ rfixed_c v)
    have HFS := Lib.hid (fun v => hfast ▸ rfast_c csr HRG.out.1 HRG.out.2 v)
    have HAW := Lib.hid (fun v (hb : Below w.heap.size w v) => mawake_c v (HR.out.below hb))
    clear hA hB hN hrng hp hn hfast
    generalize (rowAt k).kept = ka at *
    generalize (rowAt k).fixed = fi at *
    generalize fastB csr = fb at *
    generalize hs : ({ data := (rowAt k).name.toArray } : ByteArray) = s at *
    clear hs
    have HNR := Lib.hid hnr
    clear hnr
    go_wp2_with fail
    refine (place_c csr _).mono ?_
    rintro e w2 ⟨⟨v2, rfl, hv2⟩, hb2⟩
    obtain rfl := hv2.unique HFR.out
    have hz2 := hb2.size
    obtain ⟨hc2, hf2⟩ := bcf hb2
    have HB2 := Lib.hid (bthen (bal HB1.out _) hb2)
    have hlt : w1.heap.size < w2.heap.size := by have := hb2.size; simp at this; omega
    clear hv2 hb2
    go_wp2_with fail
    refine (number_c _ _ (HR.out.below HB2.out)).mono ?_
    rintro e w3 ⟨⟨v3, rfl, hv3⟩, hb3⟩
    obtain rfl := HNR.out _ hv3
    have hc3 := (bcf hb3).1
    have d0 := (hc3 w1.heap.size 0 hlt).trans ((hc2 w1.heap.size 0 (by simp)).trans (show _ = some (.string s) by simp [go_sem]))
    have d1 := (hc3 w1.heap.size 1 hlt).trans ((hc2 w1.heap.size 1 (by simp)).trans (show _ = some (.int .u32 ka) by simp [go_sem]))
    have d2 := (hc3 w1.heap.size 2 hlt).trans ((hc2 w1.heap.size 2 (by simp)).trans (show _ = some (.int .u32 fi) by simp [go_sem]))
    have d3 := (hc3 w1.heap.size 3 hlt).trans ((hc2 w1.heap.size 3 (by simp)).trans (show _ = some (.bool fb) by simp [go_sem]))
    have HB3 := Lib.hid (bthen HB2.out hb3)
    have hz3 := hb3.size
    clear hv3 hb3 hc2 hf2 hc3 hz2 hz1
    have i1 : (0 : Int) ≤ (k : Int) := by omega
    have i2 : (k : Int) < 23 := by omega
    go_wp2
    refine wp_region_fc (by kernel_rfl) (by kernel_rfl) [.is (.int .i64 0), .is (.bool true), .is (.bool true), .is (.int .i64 0), .is (.bool true), .is (.bool true), .is (.bool true), .is (.int .i64 csr), .is (.int .i64 csr), .is (.bool true), .is (.bool true), .is (.bool true),
      .is (.agg #[.string s, .int .u32 ka, .int .u32 fi, .bool fb]), .mem (fun g => .slice (some ⟨g, 0, none⟩) 23 23) [(k, .string s)], .is (.int .i64 k), .mem (fun g => .pointer (some ⟨g, k, none⟩)) [(k, .string s)], .is (.string s),
      .mem (fun g => .slice (some ⟨g, 0, none⟩) 23 23) [(k, .int .u32 ka)], .is (.int .i64 k), .mem (fun g => .pointer (some ⟨g, k, none⟩)) [(k, .int .u32 ka)], .is (.int .u32 ka),
      .mem (fun g => .slice (some ⟨g, 0, none⟩) 23 23) [(k, .int .u32 fi)], .is (.int .i64 k), .mem (fun g => .pointer (some ⟨g, k, none⟩)) [(k, .int .u32 fi)], .is (.int .u32 fi),
      .is (.int .i64 csr), .is (.bool fb), .is (.agg #[.string s, .int .u32 ka, .int .u32 fi, .bool fb]), .is (.bool true), .is (.bool true), .is (.bool true), .is (.bool true), .is (.bool true), .is (.bool true)] ?_ ?_
    · intro vs w' hb'
      have c0 := (hb'.cell (p := ⟨w1.heap.size, 0, none⟩) (by simp; omega)).trans d0
      have c1 := (hb'.cell (p := ⟨w1.heap.size, 1, none⟩) (by simp; omega)).trans d1
      have c2 := (hb'.cell (p := ⟨w1.heap.size, 2, none⟩) (by simp; omega)).trans d2
      have c3 := (hb'.cell (p := ⟨w1.heap.size, 3, none⟩) (by simp; omega)).trans d3
      clear d0 d1 d2 d3
      simp only [factSteps, putAll, Act.put, List.setIfInBounds_toArray, List.set_cons_zero, List.set_cons_succ]
      refine ⟨?_, ?_, ?_, ?_, ?_, ?_, ?_, ?_, ?_, ?_, ?_, ?_, ?_, ?_, ?_, ?_, ?_, ?_, ?_, ?_, ?_, ?_, ?_, ?_, ?_, ?_, ?_, ?_, ?_, ?_, ?_, ?_, ?_, ?_, trivial⟩
      all_goals
        intro he
        simp only [factEdges, Region.binds, List.getD_cons_zero, List.getD_cons_succ, Fc.holds, cellsAt, true_implies, and_true] at he
        try (obtain ⟨⟨g, hg, hc⟩, he⟩ := he; simp only [hg])
        try simp only [he]
        go_wp2_with (first | (go_at_call 15; refine (HKN.out _).mono ?_; rintro e w5 ⟨rfl, rfl⟩) | (go_at_call 16; refine (HKA.out _).mono ?_; rintro e w5 ⟨rfl, rfl⟩) | (go_at_call 17; refine (HKB.out _).mono ?_; rintro e w5 ⟨rfl, rfl⟩) | (go_at_call 18; refine (HFS.out _).mono ?_; rintro e w5 ⟨rfl, rfl⟩) | (go_at_call 13; refine (HAW.out _ (bthen HB3.out hb')).mono ?_; rintro e w5 ⟨rfl, hb5⟩))
        first
          | exact ⟨rfl, Below.refl _ _⟩
          | exact ⟨⟨_, rfl, (arr_cell _ _ _ _).trans h0, trivial⟩, bal (Below.refl _ _) _⟩
          | exact ⟨⟨_, rfl, (arr_cell _ _ _ _).trans h1, trivial⟩, bal (Below.refl _ _) _⟩
          | exact ⟨⟨_, rfl, (arr_cell _ _ _ _).trans h2, trivial⟩, bal (Below.refl _ _) _⟩
          | exact ⟨⟨_, rfl, hc, trivial⟩, Below.refl _ _⟩
          | exact rfl
    · intro vs w' hb' hall
      simp only [factSteps, List.getD_cons_zero, List.getD_cons_succ, Fc.holds, cellsAt, and_true] at hall
      obtain ⟨-, -, -, -, -, -, -, -, -, -, -, -, -, -, -, -, -, -, -, -, -, -, -, -, -, -, -, -, -, -, -, -, -, e33⟩ := hall
      simp only [putAll, Act.put, List.setIfInBounds_toArray, List.set_cons_zero, List.set_cons_succ, e33]
      go_wp2
      go_ret
      exact ⟨rfl, bthen HB3.out hb'⟩
  · have HN := Lib.hid hn
    go_wp2_with fail
    refine (place_c csr _).mono ?_
    rintro e w2 ⟨⟨v2, rfl, hv2⟩, hb2⟩
    obtain rfl : v2 = -1 := by
      rcases hv2 with ⟨j, hj, hp, _, rfl⟩ | ⟨_, rfl⟩
      · exact absurd (HN.out j hj) (by simp [hp])
      · rfl
    have hlt : w1.heap.size < w2.heap.size := by have := hb2.size; simp at this; omega
    have hc2 := (bcf hb2).1
    have d0 := (hc2 w1.heap.size 0 (by simp)).trans (show _ = some (.string ⟨#[]⟩) by simp [go_sem])
    have d1 := (hc2 w1.heap.size 1 (by simp)).trans (show _ = some (.int .u32 0) by simp [go_sem])
    have d2 := (hc2 w1.heap.size 2 (by simp)).trans (show _ = some (.int .u32 0) by simp [go_sem])
    have d3 := (hc2 w1.heap.size 3 (by simp)).trans (show _ = some (.bool false) by simp [go_sem])
    have HB2 := Lib.hid (bthen (bal HB1.out _) hb2)
    clear hv2 hb2 hn hc2
    go_wp2_with (go_at_call 13; refine (mawake_c _ (HR.out.below HB2.out)).mono ?_; rintro e w3 ⟨rfl, hb3⟩)
    go_ret
    exact ⟨rfl, bthen HB2.out hb3⟩
end Go.Proofs.YtnooikjkjcflbaaDoor
