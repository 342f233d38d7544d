/- The walk of the law CsrReads: it returns true. Conditions: numbers are of their kinds; the listed variable holds what the program's text lays in it. -/
import Derived.Test.YtnooikjkjcflbabDoorCt
import Derived.Test.YtnooikjkjcflbabDoorRg
namespace Go.Proofs.YtnooikjkjcflbabDoor
open Go.RowKit
set_option linter.unusedVariables false
set_option linter.unusedSimpArgs false

theorem of_c (f0 f1 f2 f3 f4 f5 f6 c i : Int) (w : World) : Calls Tryd.prog 31 #[.agg #[.int .u32 f0, .int .u32 f1, .int .u32 f2, .int .u32 f3, .int .u32 f4, .int .u32 f5, .int .u32 f6, .int .u64 c, .int .u64 i]] w fun e w' =>
    e = .returned (.agg #[.int .u32 f0, .int .u32 f1, .int .u32 f2, .int .u32 f3, .int .u32 f4, .int .u32 f5, .int .u32 f6, .int .u64 c, .int .u64 i]) ∧ Below w.heap.size w w' := by
  go_enter Tryd.func31, Tryd.ntmps31
  go_wp2
  refine bodyPost_ret (v := .agg #[.int .u32 f0, .int .u32 f1, .int .u32 f2, .int .u32 f3, .int .u32 f4, .int .u32 f5, .int .u32 f6, .int .u64 c, .int .u64 i]) (by simp [results, Tryd.results31, go_sem]) rfl ⟨rfl, ?_⟩
  repeat (first | exact Below.refl _ _ | refine bal ?_ _ | (refine bset ?_ (by simp <;> omega) _) | refine Below.drew ?_ | refine bdn ?_ _)
theorem in_c (t r ti ca : Int) (w : World) : Calls Tryd.prog 33 #[.agg #[.int .u64 t, .int .u64 r, .int .u64 ti, .int .u32 ca]] w fun e w' =>
    e = .returned (.agg #[.int .u64 t, .int .u64 r, .int .u64 ti, .int .u32 ca]) ∧ Below w.heap.size w w' := by
  go_enter Tryd.func33, Tryd.ntmps33
  go_wp2
  refine bodyPost_ret (v := .agg #[.int .u64 t, .int .u64 r, .int .u64 ti, .int .u32 ca]) (by simp [results, Tryd.results33, go_sem]) rfl ⟨rfl, ?_⟩
  repeat (first | exact Below.refl _ _ | refine bal ?_ _ | (refine bset ?_ (by simp <;> omega) _) | refine Below.drew ?_ | refine bdn ?_ _)
theorem new_c (w : World) : Calls Tryd.prog 62 #[] w fun e w' =>
    e = .returned (.agg #[.int .u32 6144, .int .u32 0, .int .u32 0, .int .u32 0, .int .u32 0, .int .u32 0, .int .u32 0, .int .u64 0, .int .u64 0]) ∧ Below w.heap.size w w' := by
  go_enter Tryd.func62, Tryd.ntmps62
  go_wp2
  refine bodyPost_ret (v := .agg #[.int .u32 6144, .int .u32 0, .int .u32 0, .int .u32 0, .int .u32 0, .int .u32 0, .int .u32 0, .int .u64 0, .int .u64 0]) (by simp [results, Tryd.results62, go_sem]) rfl ⟨rfl, ?_⟩
  repeat (first | exact Below.refl _ _ | refine bal ?_ _ | (refine bset ?_ (by simp <;> omega) _) | refine Below.drew ?_ | refine bdn ?_ _)
theorem cawake_c (w : World) (hr : RowsIs w) : Calls Tryd.prog 29 #[] w fun e w' => e = .returned (.bool true) ∧ Below w.heap.size w w' := by
  have HR := Lib.hid hr
  clear hr
  have h0 := fun (w : World) (hr : RowsIs w) => cread_c 0 (by decide) 6144 0 0 0 0 0 0 0 0 0 0 0 0 (by decide) w hr
  have h1 := fun (w : World) (hr : RowsIs w) => cread_c 1 (by decide) 6144 0 0 0 0 0 0 0 0 0 0 0 0 (by decide) w hr
  have H0 := Lib.hid h0
  have H1 := Lib.hid h1
  clear h0 h1
  go_enter Tryd.func29, Tryd.ntmps29
  go_wp2_with fail
  refine (new_c _).mono ?_
  rintro e w1 ⟨rfl, hb1⟩
  have HB1 := Lib.hid hb1
  clear hb1
  go_wp2_with fail
  refine (H0.out _ (HR.out.below (bal HB1.out _))).mono ?_
  rintro e w2 ⟨rfl, hb2⟩
  have hc2 := (bcf hb2).1
  have HB2 := Lib.hid (bthen (bal HB1.out _) hb2)
  have hz2 : w1.heap.size < w2.heap.size := by have := hb2.size; simp at this; omega
  have n2 : ¬ w1.heap.size = w2.heap.size := by omega
  clear hb2
  go_wp2_with fail
  refine (H1.out _ (HR.out.below HB2.out)).mono ?_
  rintro e w3 ⟨rfl, hb3⟩
  have HB3 := Lib.hid (bthen HB2.out hb3)
  clear hb3
  simp only [show readV 0 6144 0 0 0 0 0 0 0 0 0 0 0 0 = 6144 by decide, show readV 1 6144 0 0 0 0 0 0 0 0 0 0 0 0 = 1073746176 by decide]
  go_wp2
  go_ret
  exact ⟨rfl, HB3.out⟩
end Go.Proofs.YtnooikjkjcflbabDoor
