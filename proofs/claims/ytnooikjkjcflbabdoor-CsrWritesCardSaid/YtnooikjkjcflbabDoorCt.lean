/- Contract of csr's Read. Conditions: numbers are of their kinds; the listed variable holds what the program's text lays in it. -/
import Derived.Test.YtnooikjkjcflbabDoorCs
namespace Go.Proofs.YtnooikjkjcflbabDoor
open Go.RowKit
set_option linter.unusedVariables false
set_option linter.unusedSimpArgs false

theorem find_at (k : Nat) (hk : k < 23) {v : Value} (h : FindIs (rowAt k).num v) : ∃ s ka fb, v = .tuple #[.agg #[.string s, .int .u32 ka, .int .u32 (rowAt k).fixed, .bool fb], .int .i64 0] := by
  rcases h with ⟨j, hj, hp, hn, rfl⟩ | ⟨hn, rfl⟩
  · have hf : FirstRow (fun r => r.num == (rowAt k).num) j := .inl ⟨j, hj, by simpa using hp, hn, rfl⟩
    have := hf.unique (first_at k hk)
    obtain rfl : j = k := by omega
    exact ⟨_, _, _, rfl⟩
  · exact absurd (hn k hk) (by simp)
theorem an_nums : (bits .andNot .i64 769 128 = 769 ∧ bits .andNot .i64 836 128 = 836 ∧ bits .andNot .i64 2816 128 = 2816 ∧ bits .andNot .i64 2818 128 = 2818 ∧ bits .andNot .i64 2944 128 = 2816 ∧ bits .andNot .i64 2946 128 = 2818 ∧ bits .andNot .i64 3072 128 = 3072 ∧ bits .andNot .i64 3073 128 = 3073 ∧ bits .andNot .i64 3074 128 = 3074 ∧ bits .andNot .i64 3200 128 = 3072 ∧ bits .andNot .i64 3201 128 = 3073 ∧ bits .andNot .i64 3202 128 = 3074 ∧ bits .andNot .i64 3857 128 = 3857 ∧ bits .andNot .i64 3858 128 = 3858 ∧ bits .andNot .i64 3859 128 = 3859 ∧ bits .andNot .i64 3860 128 = 3860) := by decide +kernel
theorem a8_nums : (bits .and .i64 2816 128 = 0 ∧ bits .and .i64 2818 128 = 0 ∧ bits .and .i64 2944 128 = 128 ∧ bits .and .i64 2946 128 = 128 ∧ bits .and .i64 3072 128 = 0 ∧ bits .and .i64 3073 128 = 0 ∧ bits .and .i64 3074 128 = 0 ∧ bits .and .i64 3200 128 = 128 ∧ bits .and .i64 3201 128 = 128 ∧ bits .and .i64 3202 128 = 128) := by decide +kernel
theorem cnt_nums (c i t r ti : Int) : cntV 2816 c i t r ti = IntKind.u64.wrap (t + c) ∧ cntV 3072 c i t r ti = IntKind.u64.wrap (t + c) ∧ cntV 2818 c i t r ti = IntKind.u64.wrap (r + i) ∧ cntV 3074 c i t r ti = IntKind.u64.wrap (r + i) ∧ cntV 3073 c i t r ti = ti := by simp [cntV]
theorem cntb_nums : cntB 2816 = true ∧ cntB 3072 = true ∧ cntB 2818 = true ∧ cntB 3074 = true ∧ cntB 3073 = true ∧ cntB 769 = false ∧ cntB 836 = false ∧ cntB 3857 = false ∧ cntB 3858 = false ∧ cntB 3859 = false ∧ cntB 3860 = false := by decide +kernel
theorem kept_nums (b : Nat) : keptV b 768 = .pointer (some ⟨b, 0, none⟩) ∧ keptV b 772 = .pointer (some ⟨b, 1, none⟩) ∧ keptV b 773 = .pointer (some ⟨b, 2, none⟩) ∧ keptV b 832 = .pointer (some ⟨b, 3, none⟩) ∧ keptV b 833 = .pointer (some ⟨b, 4, none⟩) ∧ keptV b 834 = .pointer (some ⟨b, 5, none⟩) ∧ keptV b 835 = .pointer (some ⟨b, 6, none⟩) ∧
    keptV b 769 = .pointer none ∧ keptV b 836 = .pointer none ∧ keptV b 2816 = .pointer none ∧ keptV b 2818 = .pointer none ∧ keptV b 2944 = .pointer none ∧ keptV b 2946 = .pointer none ∧ keptV b 3072 = .pointer none ∧ keptV b 3073 = .pointer none ∧ keptV b 3074 = .pointer none ∧ keptV b 3200 = .pointer none ∧ keptV b 3201 = .pointer none ∧ keptV b 3202 = .pointer none ∧ keptV b 3857 = .pointer none ∧ keptV b 3858 = .pointer none ∧ keptV b 3859 = .pointer none ∧ keptV b 3860 = .pointer none := by simp [keptV]
set_option maxHeartbeats 16000000 in
set_option maxRecDepth 100000 in
theorem cread_c (k : Nat) (hk : k < 23) (f0 f1 f2 f3 f4 f5 f6 c i t r ti ca : Int) (hti : 0 ≤ ti ∧ ti ≤ 18446744073709551615) (w : World) (hr : RowsIs w) :
    Calls Tryd.prog 63 #[.agg #[.int .u32 f0, .int .u32 f1, .int .u32 f2, .int .u32 f3, .int .u32 f4, .int .u32 f5, .int .u32 f6, .int .u64 c, .int .u64 i], .int .i64 (rowAt k).num, .agg #[.int .u64 t, .int .u64 r, .int .u64 ti, .int .u32 ca]] w fun e w' =>
      e = .returned (.tuple #[.int .u32 (readV k f0 f1 f2 f3 f4 f5 f6 c i t r ti ca), .int .i64 0]) ∧ Below w.heap.size w w' := by
  have HR := Lib.hid hr
  have hfa := fun (k : Nat) (hk : k < 23) (v : Value) (h : FindIs (rowAt k).num v) => find_at k hk h
  have HFA := Lib.hid hfa
  obtain ⟨htc0, htc1⟩ := wrap64_rng (t + c)
  obtain ⟨hri0, hri1⟩ := wrap64_rng (r + i)
  obtain ⟨hti0, hti1⟩ := hti
  have hbw := bal (bal (Below.refl w.heap.size w) (.cells #[.int .u32 f0, .int .u32 f1, .int .u32 f2, .int .u32 f3, .int .u32 f4, .int .u32 f5, .int .u32 f6, .int .u64 c, .int .u64 i] 47)) (.cells #[.int .u64 t, .int .u64 r, .int .u64 ti, .int .u32 ca] 51)
  have HBW := Lib.hid hbw
  clear hr hfa hbw
  rcases (by omega : k = 0 ∨ k = 1 ∨ k = 2 ∨ k = 3 ∨ k = 4 ∨ k = 5 ∨ k = 6 ∨ k = 7 ∨ k = 8 ∨ k = 9 ∨ k = 10 ∨ k = 11 ∨ k = 12 ∨ k = 13 ∨ k = 14 ∨ k = 15 ∨ k = 16 ∨ k = 17 ∨ k = 18 ∨ k = 19 ∨ k = 20 ∨ k = 21 ∨ k = 22) with rfl | rfl | rfl | rfl | rfl | rfl | rfl | rfl | rfl | rfl | rfl | rfl | rfl | rfl | rfl | rfl | rfl | rfl | rfl | rfl | rfl | rfl | rfl
  all_goals
    have HV := Lib.hid (HFA.out _ hk)
    clear HFA hk
    simp only [show (rowAt 0).num = 768 from rfl, show (rowAt 1).num = 769 from rfl, show (rowAt 2).num = 772 from rfl, show (rowAt 3).num = 773 from rfl, show (rowAt 4).num = 832 from rfl, show (rowAt 5).num = 833 from rfl, show (rowAt 6).num = 834 from rfl, show (rowAt 7).num = 835 from rfl, show (rowAt 8).num = 836 from rfl, show (rowAt 9).num = 2816 from rfl, show (rowAt 10).num = 2818 from rfl, show (rowAt 11).num = 2944 from rfl, show (rowAt 12).num = 2946 from rfl, show (rowAt 13).num = 3072 from rfl, show (rowAt 14).num = 3073 from rfl, show (rowAt 15).num = 3074 from rfl, show (rowAt 16).num = 3200 from rfl, show (rowAt 17).num = 3201 from rfl, show (rowAt 18).num = 3202 from rfl, show (rowAt 19).num = 3857 from rfl, show (rowAt 20).num = 3858 from rfl, show (rowAt 21).num = 3859 from rfl, show (rowAt 22).num = 3860 from rfl] at *
    go_enter Tryd.func63, Tryd.ntmps63
    go_wp2_with fail
    refine (find_c _ _ (HR.out.below HBW.out)).mono ?_
    rintro e w1 ⟨⟨v, rfl, hv⟩, hb1⟩
    obtain ⟨s, ka, fb, rfl⟩ := HV.out _ hv
    clear HV hv
    obtain ⟨hc1, hf1⟩ := bcf hb1
    have HB1 := Lib.hid (bthen HBW.out hb1)
    have hz1 : w.heap.size + 1 + 1 ≤ w1.heap.size := by have := hb1.size; simpa using this
    have n0 : ¬ w.heap.size = w1.heap.size := by omega
    have n1 : ¬ w.heap.size + 1 = w1.heap.size := by omega
    have n2 : w.heap.size < w1.heap.size := by omega
    have n3 : w.heap.size + 1 < w1.heap.size := by omega
    clear hb1
    go_wp2_with (go_at_call 57; refine (kept_c _ _ _).mono ?_; rintro e w' ⟨rfl, rfl⟩; simp only [kept_nums])
    try (go_ret2; exact ⟨rfl, bal HB1.out _⟩)
  all_goals
    refine (counted_c w.heap.size _ c i t r ti ca _ (by simp [go_sem, hc1, n0, n1, n2, n3]) (by simp [go_sem, hc1, n0, n1, n2, n3])).mono ?_
    rintro e w2 ⟨rfl, hb2⟩
    simp only [an_nums, cnt_nums, cntb_nums]
    have HB2 := Lib.hid (bthen (bal HB1.out _) hb2)
    have hc2 := (bcf hb2).1
    have hz2 := hb2.size
    simp only [World.size_alloc] at hz2
    have n4 : ¬ w.heap.size = w2.heap.size := by omega
    have n5 : ¬ w.heap.size + 1 = w2.heap.size := by omega
    have n6 : w.heap.size < w2.heap.size := by omega
    have n7 : w.heap.size + 1 < w2.heap.size := by omega
    have n8 : w1.heap.size < w2.heap.size := by omega
    have a8 := a8_nums
    clear hb2 hz2
    go_wp2
    try (go_ret2; exact ⟨rfl, HB2.out⟩)
theorem cnone_c (csr : Int) (hn : NoRow (fun r => r.num == csr) 23) (f0 f1 f2 f3 f4 f5 f6 c i t r ti ca : Int) (w : World) (hr : RowsIs w) :
    Calls Tryd.prog 63 #[.agg #[.int .u32 f0, .int .u32 f1, .int .u32 f2, .int .u32 f3, .int .u32 f4, .int .u32 f5, .int .u32 f6, .int .u64 c, .int .u64 i], .int .i64 csr, .agg #[.int .u64 t, .int .u64 r, .int .u64 ti, .int .u32 ca]] w fun e w' =>
      e = .returned (.tuple #[.int .u32 0, .int .i64 8]) ∧ Below w.heap.size w w' := by
  have HR := Lib.hid hr
  have HN := Lib.hid hn
  have hbw := bal (bal (Below.refl w.heap.size w) (.cells #[.int .u32 f0, .int .u32 f1, .int .u32 f2, .int .u32 f3, .int .u32 f4, .int .u32 f5, .int .u32 f6, .int .u64 c, .int .u64 i] 47)) (.cells #[.int .u64 t, .int .u64 r, .int .u64 ti, .int .u32 ca] 51)
  have HBW := Lib.hid hbw
  clear hr hn hbw
  go_enter Tryd.func63, Tryd.ntmps63
  go_wp2_with fail
  refine (find_c _ _ (HR.out.below HBW.out)).mono ?_
  rintro e w1 ⟨⟨v, rfl, hv⟩, hb1⟩
  have HB1 := Lib.hid (bthen HBW.out hb1)
  obtain rfl : v = .tuple #[.agg #[.string ⟨#[]⟩, .int .u32 0, .int .u32 0, .bool false], .int .i64 8] := by
    rcases hv with ⟨j, hj, hp, _, rfl⟩ | ⟨_, rfl⟩
    · exact absurd (HN.out j hj) (by simp [hp])
    · rfl
  clear hv hb1
  go_wp2
  go_ret2
  exact ⟨rfl, bal HB1.out _⟩
end Go.Proofs.YtnooikjkjcflbabDoor
