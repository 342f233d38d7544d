/- The walk of the law CsrReads: it returns true. Conditions: numbers are of their kinds; the listed variable holds what the program's text lays in it. -/
import Derived.Test.YtnooikjkjcflbaaDoorCu
namespace Go.Proofs.YtnooikjkjcflbaaDoor
open Go.RowKit
set_option linter.unusedVariables false
set_option linter.unusedSimpArgs false

set_option maxHeartbeats 8000000 in
set_option maxRecDepth 100000 in
theorem creads_w (csr f0 f1 f2 f3 f4 f5 f6 c i t r ti ca : Int) (hti : 0 ≤ ti ∧ ti ≤ 18446744073709551615) (w : World) (hr : RowsIs w) :
    Calls Tryd.prog 7 #[.agg #[.int .u32 f0, .int .u32 f1, .int .u32 f2, .int .u32 f3, .int .u32 f4, .int .u32 f5, .int .u32 f6, .int .u64 c, .int .u64 i], .int .i64 csr, .agg #[.int .u64 t, .int .u64 r, .int .u64 ti, .int .u32 ca]] w fun e w' =>
      e = .returned (.bool true) ∧ Below w.heap.size w w' := by
  have HR := Lib.hid hr
  have hbw := bal (bal (Below.refl w.heap.size w) (.cells #[.int .u32 f0, .int .u32 f1, .int .u32 f2, .int .u32 f3, .int .u32 f4, .int .u32 f5, .int .u32 f6, .int .u64 c, .int .u64 i] 49)) (.cells #[.int .u64 t, .int .u64 r, .int .u64 ti, .int .u32 ca] 51)
  have HBW := Lib.hid hbw
  clear hr hbw
  by_cases hk : ∃ k, k < 23 ∧ (rowAt k).num = csr
  · obtain ⟨k, hk, rfl⟩ := hk
    have hcr := fun (v : World) (hr : RowsIs v) => cread_c k hk f0 f1 f2 f3 f4 f5 f6 c i t r ti ca hti v hr
    have hrr := fun (v : World) => rread_c k hk f0 f1 f2 f3 f4 f5 f6 c i t r ti ca hti v
    have HCR := Lib.hid hcr
    have HRR := Lib.hid hrr
    have HFA := Lib.hid (first_at k hk)
    have hk0 : ¬ (k : Int) < 0 := by omega
    clear hcr hrr hti
    generalize (readV k f0 f1 f2 f3 f4 f5 f6 c i t r ti ca) = x at *
    go_enter Tryd.func7, Tryd.ntmps7
    go_wp2_with fail
    refine (HCR.out _ (HR.out.below HBW.out)).mono ?_
    rintro e w1 ⟨rfl, hb1⟩
    have hc1 := (bcf hb1).1
    have HB1 := Lib.hid (bthen HBW.out hb1)
    have hz1 : w.heap.size + 1 + 1 ≤ w1.heap.size := by have := hb1.size; simpa using this
    have n2 : w.heap.size < w1.heap.size := by omega
    have n3 : w.heap.size + 1 < w1.heap.size := by omega
    clear hb1
    go_wp2_with fail
    refine (place_c _ _).mono ?_
    rintro e w2 ⟨⟨v, rfl, hv⟩, hb2⟩
    obtain rfl := hv.unique HFA.out
    have hc2 := (bcf hb2).1
    have HB2 := Lib.hid (bthen HB1.out hb2)
    have hz2 := hb2.size
    have n4 : w.heap.size < w2.heap.size := by omega
    have n5 : w.heap.size + 1 < w2.heap.size := by omega
    clear hb2 hv
    go_wp2
    refine wp_region_below (by kernel_rfl) (by kernel_rfl) ?_
    intro S _ F hF hS
    have c0 := fcell hF (b := w.heap.size) (o := 0) (v := .int .u32 f0) (by simp [go_sem, hc1, hc2, n2, n3, n4, n5])
    have c1 := fcell hF (b := w.heap.size) (o := 1) (v := .int .u32 f1) (by simp [go_sem, hc1, hc2, n2, n3, n4, n5])
    have c2 := fcell hF (b := w.heap.size) (o := 2) (v := .int .u32 f2) (by simp [go_sem, hc1, hc2, n2, n3, n4, n5])
    have c3 := fcell hF (b := w.heap.size) (o := 3) (v := .int .u32 f3) (by simp [go_sem, hc1, hc2, n2, n3, n4, n5])
    have c4 := fcell hF (b := w.heap.size) (o := 4) (v := .int .u32 f4) (by simp [go_sem, hc1, hc2, n2, n3, n4, n5])
    have c5 := fcell hF (b := w.heap.size) (o := 5) (v := .int .u32 f5) (by simp [go_sem, hc1, hc2, n2, n3, n4, n5])
    have c6 := fcell hF (b := w.heap.size) (o := 6) (v := .int .u32 f6) (by simp [go_sem, hc1, hc2, n2, n3, n4, n5])
    have c7 := fcell hF (b := w.heap.size) (o := 7) (v := .int .u64 c) (by simp [go_sem, hc1, hc2, n2, n3, n4, n5])
    have c8 := fcell hF (b := w.heap.size) (o := 8) (v := .int .u64 i) (by simp [go_sem, hc1, hc2, n2, n3, n4, n5])
    have e0 := fcell hF (b := w.heap.size + 1) (o := 0) (v := .int .u64 t) (by simp [go_sem, hc1, hc2, n2, n3, n4, n5])
    have e1 := fcell hF (b := w.heap.size + 1) (o := 1) (v := .int .u64 r) (by simp [go_sem, hc1, hc2, n2, n3, n4, n5])
    have e2 := fcell hF (b := w.heap.size + 1) (o := 2) (v := .int .u64 ti) (by simp [go_sem, hc1, hc2, n2, n3, n4, n5])
    have e3 := fcell hF (b := w.heap.size + 1) (o := 3) (v := .int .u32 ca) (by simp [go_sem, hc1, hc2, n2, n3, n4, n5])
    have HRF : ∀ s, Hid (RowsIs (F s)) := fun s => Lib.hid (HR.out.below (bthen HB2.out (hF s)))
    repeat (go_big_quiet_step (first | (go_at_call 28; exact qbelow hS (of_c _ _ _ _ _ _ _ _ _ _)) | (go_at_call 29; exact qbelow hS (in_c _ _ _ _ _)) | (go_at_call 27; exact qbelow hS (HRR.out _)) | (go_at_call 30; exact qbelow hS (new_c _)) | (go_at_call 31; exact qbelow hS (rnew_c _)) | (go_at_call 26; exact qbelow hS (cawake_c _ (HRF _).out))))
    refine wpQuiet_nil ?_
    intro w3 hw3
    obtain ⟨s3, rfl⟩ := hw3
    have hb3 := bthen HB2.out (hF s3)
    clear c0 c1 c2 c3 c4 c5 c6 c7 c8 e0 e1 e2 e3 hF hS HRF
    generalize F s3 = w3 at *
    go_wp2
    go_ret
    exact ⟨rfl, hb3⟩
  · have hn : NoRow (fun r => r.num == csr) 23 := fun j hj => by
      simp only [beq_eq_false_iff_ne]
      exact fun h => hk ⟨j, hj, h⟩
    have hcr := fun (v : World) (hr : RowsIs v) => cnone_c csr hn f0 f1 f2 f3 f4 f5 f6 c i t r ti ca v hr
    have HCR := Lib.hid hcr
    have HN := Lib.hid hn
    clear hcr hk hn
    go_enter Tryd.func7, Tryd.ntmps7
    go_wp2_with fail
    refine (HCR.out _ (HR.out.below HBW.out)).mono ?_
    rintro e w1 ⟨rfl, hb1⟩
    have HB1 := Lib.hid (bthen HBW.out hb1)
    clear hb1
    go_wp2_with fail
    refine (place_c _ _).mono ?_
    rintro e w2 ⟨⟨v, rfl, hv⟩, hb2⟩
    obtain rfl : v = -1 := by
      rcases hv with ⟨j, hj, hp, _, rfl⟩ | ⟨_, rfl⟩
      · exact absurd (HN.out j hj) (by simp [hp])
      · rfl
    have HB2 := Lib.hid (bthen HB1.out hb2)
    clear hb2 hv
    go_wp2_with fail
    refine (cawake_c _ (HR.out.below HB2.out)).mono ?_
    rintro e w3 ⟨rfl, hb3⟩
    go_wp2
    go_ret
    exact ⟨rfl, bthen HB2.out hb3⟩
end Go.Proofs.YtnooikjkjcflbaaDoor
