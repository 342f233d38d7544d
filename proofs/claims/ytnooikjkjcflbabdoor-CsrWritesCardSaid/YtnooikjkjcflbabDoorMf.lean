/- Contracts of mask.Find, Number, Legal and Writes. Conditions: the listed variable holds what the program's text lays in it. -/
import Derived.Test.YtnooikjkjcflbabDoorMk
namespace Go.Proofs.YtnooikjkjcflbabDoor
open Go.RowKit
set_option linter.unusedVariables false
set_option linter.unusedSimpArgs false

def fastB (csr : Int) : Bool := csr / 1024 == 3
/-- What Find answers. -/
def FindIs (csr : Int) (v : Value) : Prop :=
  (∃ k : Nat, k < 23 ∧ (rowAt k).num = csr ∧ NoRow (fun r => r.num == csr) k ∧ v = .tuple #[.agg #[.string ⟨(rowAt k).name.toArray⟩, .int .u32 (rowAt k).kept, .int .u32 (rowAt k).fixed, .bool (fastB csr)], .int .i64 0]) ∨
  (NoRow (fun r => r.num == csr) 23 ∧ v = .tuple #[.agg #[.string ⟨#[]⟩, .int .u32 0, .int .u32 0, .bool false], .int .i64 8])
set_option maxHeartbeats 2000000 in
theorem find_c (csr : Int) (w : World) (hr : RowsIs w) : Calls Tryd.prog 56 #[.int .i64 csr] w fun e w' => (∃ v, e = .returned v ∧ FindIs csr v) ∧ Below w.heap.size w w' := by
  have HR := Lib.hid hr
  have hm := mhmf
  clear hr
  go_enter Tryd.func56, Tryd.ntmps56
  go_wp2_with fail
  refine (at_num_c csr _ _ (HR.out.below (bal (bal (Below.refl _ _) _) _)) (by simp [go_sem])).mono ?_
  rintro e w1 ⟨⟨v, rfl, hv⟩, hb1⟩
  have hb2 := bthen (bal (bal (Below.refl w.heap.size w) _) _) hb1
  have hz : w.heap.size + 2 ≤ w1.heap.size := by have := hb1.size; simp at this; omega
  have n0 : ¬ w.heap.size = w1.heap.size := by omega
  have n1 : ¬ w.heap.size + 1 = w1.heap.size := by omega
  have n2 : w.heap.size < w1.heap.size := by omega
  have n3 : w.heap.size + 1 < w1.heap.size := by omega
  rcases hv with ⟨k, hk, hp, hn, rfl⟩ | ⟨hn, rfl⟩
  · have hr1 := HR.out.below hb2
    have c0 := rows_cell hr1 k 0 hk (by decide)
    have c1 := rows_cell hr1 k 1 hk (by decide)
    have c2 := rows_cell hr1 k 2 hk (by decide)
    have c3 := rows_cell hr1 k 3 hk (by decide)
    simp only [MRow.cells, List.getElem?_cons_zero, List.getElem?_cons_succ] at c0 c1 c2 c3
    rw [show 4 * k + 0 = k * 4 by omega] at c0
    rw [show 4 * k + 1 = k * 4 + 1 by omega] at c1
    rw [show 4 * k + 2 = k * 4 + 2 by omega] at c2
    rw [show 4 * k + 3 = k * 4 + 3 by omega] at c3
    have Hp := Lib.hid hp
    obtain ⟨hc, hf⟩ := bcf hb1
    clear hp hb1
    go_wp2
    refine bodyPost_ret (v := .tuple #[.agg #[.string ⟨(rowAt k).name.toArray⟩, .int .u32 (rowAt k).kept, .int .u32 (rowAt k).fixed, .bool (fastB csr)], .int .i64 0]) (by simp [results, Tryd.results56, go_sem, hc, fastB, n0, n1, n2, n3]) rfl ⟨⟨_, rfl, .inl ⟨k, hk, by simpa using Hp.out, hn, rfl⟩⟩, ?_⟩
    repeat (first | exact hb2 | refine bal ?_ _ | (refine bset ?_ (by simp <;> omega) _) | refine bdn ?_ _)
  · obtain ⟨hc, hf⟩ := bcf hb1
    clear hb1
    go_wp2
    refine bodyPost_ret (v := .tuple #[.agg #[.string ⟨#[]⟩, .int .u32 0, .int .u32 0, .bool false], .int .i64 8]) (by simp [results, Tryd.results56, go_sem, hc, n0, n1, n2, n3]) rfl ⟨⟨_, rfl, .inr ⟨hn, rfl⟩⟩, ?_⟩
    repeat (first | exact hb2 | refine bal ?_ _ | (refine bset ?_ (by simp <;> omega) _) | refine bdn ?_ _)
end Go.Proofs.YtnooikjkjcflbabDoor
