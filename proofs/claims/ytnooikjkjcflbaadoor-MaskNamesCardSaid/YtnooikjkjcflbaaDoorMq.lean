/- The walk of the law MaskNames: it returns true. Conditions: the listed variable holds what the program's text lays in it. -/
import Derived.Test.YtnooikjkjcflbaaDoorMp
namespace Go.Proofs.YtnooikjkjcflbaaDoor
open Go.RowKit
set_option linter.unusedVariables false
set_option linter.unusedSimpArgs false

theorem name_one : ∀ i, i < 23 → ∀ k, k < 23 → sB ⟨(rowAt k).name.toArray⟩ ⟨(rowAt i).name.toArray⟩ = true → k = i := by decide +kernel
theorem same_name {s : ByteArray} {i k : Nat} (hi : i < 23) (hk : k < 23) (h : sB ⟨(rowAt i).name.toArray⟩ s = true) (h' : sB ⟨(rowAt k).name.toArray⟩ s = true) : k = i := by
  refine name_one i hi k hk ?_
  unfold sB at *
  rw [beq_iff_eq] at *
  rw [h, h']
theorem owns23 {w' : World} {B : Nat} {v : Value} (h : w'.ownsRow B 3 1 v 23 (rowsL.map fun r => .int .i64 r.num)) : ∃ g cap, v = .slice (some ⟨g, 0, none⟩) 23 cap ∧ B ≤ g ∧ ∀ j, j < 23 → w'.cell? ⟨g, j, none⟩ = some (.int .i64 (rowAt j).num) := by
  obtain ⟨_, ⟨_, h0⟩ | ⟨g, cap, cur, rfl, hg, hh⟩⟩ := h
  · cases h0
  · have ho : w'.ownsRow B 3 1 (.slice (some ⟨g, 0, none⟩) 23 cap) 23 (rowsL.map fun r => .int .i64 r.num) := ⟨rfl, .inr ⟨g, cap, cur, rfl, hg, hh⟩⟩
    exact ⟨g, cap, rfl, hg, fun j hj => by rw [ho.cellAt j (by omega), row_map _ j hj]⟩
def StN (s : ByteArray) (k : Nat) (want : Int) (is : Bool) : Prop :=
  (NoRow (fun r => sB ⟨r.name.toArray⟩ s) k ∧ want = 0 ∧ is = false) ∨ (∃ j, j < k ∧ j < 23 ∧ sB ⟨(rowAt j).name.toArray⟩ s = true ∧ want = (rowAt j).num ∧ is = true)
theorem st_no {s : ByteArray} {k : Nat} {want : Int} {is : Bool} (h : StN s k want is) (hk : sB ⟨(rowAt k).name.toArray⟩ s = false) : StN s (k + 1) want is := by
  rcases h with ⟨h, h1, h2⟩ | ⟨j, hj, h⟩
  · exact .inl ⟨fun i hi => by rcases Nat.lt_succ_iff_lt_or_eq.mp hi with h' | h'; exact h i h'; subst h'; exact hk, h1, h2⟩
  · exact .inr ⟨j, by omega, h⟩
theorem st_yes {s : ByteArray} {k : Nat} (hk : k < 23) (h : sB ⟨(rowAt k).name.toArray⟩ s = true) : StN s (k + 1) (rowAt k).num true := .inr ⟨k, by omega, hk, h, rfl, rfl⟩
theorem st_end {s : ByteArray} {want : Int} {is : Bool} {v : Value} (h : StN s 23 want is) (hv : NumberIs s v) : (is = true ∧ v = .tuple #[.int .i64 want, .int .i64 0]) ∨ (is = false ∧ want = 0 ∧ v = .tuple #[.int .i64 0, .int .i64 8]) := by
  rcases h with ⟨h, rfl, rfl⟩ | ⟨j, _, hj, h, rfl, rfl⟩ <;> rcases hv with ⟨k, hk, hp, _, rfl⟩ | ⟨hn, rfl⟩
  · have := h k hk; simp only at this; rw [hp] at this; cases this
  · exact .inr ⟨rfl, rfl, rfl⟩
  · obtain rfl := same_name hj hk h hp; exact .inl ⟨rfl, rfl⟩
  · have := hn j hj; simp only at this; rw [h] at this; cases this
set_option maxHeartbeats 2000000 in
theorem mnames_w (s : ByteArray) (w : World) (hr : RowsIs w) : Calls Tryd.prog 5 #[.string s] w fun e w' => e = .returned (.bool true) ∧ Below w.heap.size w w' := by
  have HR := Lib.hid hr
  clear hr
  go_enter Tryd.func5, Tryd.ntmps5
  go_wp2_with fail
  refine (number_c s _ HR.out).mono ?_
  rintro e w1 ⟨⟨v, rfl, hv⟩, hb1⟩
  have HV := Lib.hid hv
  obtain ⟨n, x, rfl⟩ : ∃ n x, v = .tuple #[.int .i64 n, .int .i64 x] := by
    rcases hv with ⟨k, hk, hp, _, rfl⟩ | ⟨hn, rfl⟩
    · exact ⟨_, _, rfl⟩
    · exact ⟨_, _, rfl⟩
  have HB1 := Lib.hid hb1
  clear hb1 hv
  go_wp2_with fail
  refine (numbers_c _ (HR.out.below HB1.out)).mono ?_
  rintro e w2 ⟨⟨l, rfl, hl⟩, hb2⟩
  obtain ⟨g, cap, rfl, hg, hcl⟩ := owns23 hl
  have hgl : g < w2.heap.size := World.block_lt_of_cell? w2 ⟨g, 0, none⟩ (hcl 0 (by decide))
  have HB2 := Lib.hid (bthen HB1.out hb2)
  have hbw : Below w2.heap.size w2 (w2.alloc (.cells (rowsL.map fun r => .int .i64 r.num).toArray 3)) := bal (Below.refl _ _) _
  have HC := Lib.hid (show ∀ j, j < 23 → (w2.alloc (.cells (rowsL.map fun r => .int .i64 r.num).toArray 3)).cell? ⟨w2.heap.size, j, none⟩ = some (.int .i64 (rowAt j).num) from fun j hj => by rw [arr_cell, row_map _ j hj])
  have HL := Lib.hid (show ∀ j, j < 23 → (w2.alloc (.cells (rowsL.map fun r => .int .i64 r.num).toArray 3)).cell? ⟨g, j, none⟩ = some (.int .i64 (rowAt j).num) from fun j hj => (hbw.cell (p := ⟨g, j, none⟩) hgl).trans (hcl j hj))
  clear hl hb2 hcl
  go_wp2_with fail
  refine (rnums_c _).mono ?_
  rintro e w3 ⟨rfl, hw⟩
  rw [hw] at hbw HC HL
  have hz : w2.heap.size < w3.heap.size := by rw [← hw]; simp
  have HB3 := Lib.hid (bthen HB2.out hbw)
  clear hw hbw
  generalize hb : w2.heap.size = b at *
  clear hb
  go_wp2
  go_loopw [7, 8, 9] (fun want is i wr => ∃ (k : Nat) (z : Int) (y : Bool), k ≤ 23 ∧ i = .int .i64 k ∧ want = .int .i64 z ∧ is = .bool y ∧ StN s k z y ∧ Below w3.heap.size w3 wr) (fun _ _ i _ => 23 - (intOf i).toNat)
  case atStart => exact ⟨0, 0, false, by omega, rfl, rfl, rfl, .inl ⟨fun j h => by omega, rfl, rfl⟩, Below.refl _ _⟩
  case round =>
    obtain ⟨k, z, y, hk, rfl, rfl, rfl, hst, hbl⟩ := hrel
    by_cases hlt : k < 23
    · have c1 := (hbl.cell (p := ⟨b, k, none⟩) hz).trans (HC.out k hlt)
      have c2 := (hbl.cell (p := ⟨g, k, none⟩) (Nat.lt_trans hgl hz)).trans (HL.out k hlt)
      have h0 := row_map (fun r => .string ⟨r.name.toArray⟩) k hlt
      have hyes := st_yes (s := s) hlt
      have hno := st_no (s := s) hst
      have HY := Lib.hid hyes
      have HNO := Lib.hid hno
      have HB := Lib.hid hbl
      clear hst hbl hyes hno
      generalize (rowAt k).num = nk at *
      unfold sB at HY HNO
      generalize ({ data := (rowAt k).name.toArray } : ByteArray) = nm at *
      generalize hN : (rowsL.map fun r => Value.string ⟨r.name.toArray⟩) = LN at h0
      have HKN := Lib.hid (fun v => hN ▸ rnames_c v)
      clear hN
      have hcn : ∀ n, ((wr.drewN n).alloc (.cells LN.toArray 9)).cell? ⟨wr.heap.size, k, none⟩ = some (.string nm) := fun n => (arr_cell (wr.drewN n) LN 9 k).trans h0
      have hne : ¬ b = wr.heap.size := by have := HB.out.size; omega
      have hcb : ∀ n, ((wr.drewN n).alloc (.cells LN.toArray 9)).cell? ⟨b, k, none⟩ = some (.int .i64 nk) := fun n => ((bdn (Below.refl wr.heap.size wr) n).alloc (Nat.le_refl _) _ |>.cell (p := ⟨b, k, none⟩) (Nat.lt_of_lt_of_le hz HB.out.size)).trans c1
      have i1 : (0 : Int) ≤ (k : Int) := by omega
      have i2 : (k : Int) < 23 := by omega
      rcases Bool.eq_false_or_eq_true (nm.toList == s.toList) with hh | hh
      · go_wp2_with fail
        go_quiet (fail)
        go_wp2_with (go_at_call 15; refine (HKN.out _).mono ?_; rintro e w' ⟨rfl, rfl⟩)
        go_roundw
        case rel => exact ⟨k + 1, _, _, by omega, by go_num, rfl, rfl, HY.out hh, by repeat (first | exact HB.out | refine Below.alloc ?_ (by first | exact HB.out.size | (simp; exact HB.out.size)) _ | refine bdn ?_ _)⟩
        case measure => simp [intOf]; omega
      · go_wp2_with fail
        go_quiet (fail)
        go_wp2_with (go_at_call 15; refine (HKN.out _).mono ?_; rintro e w' ⟨rfl, rfl⟩)
        go_roundw
        case rel => exact ⟨k + 1, _, _, by omega, by go_num, rfl, rfl, HNO.out hh, by repeat (first | exact HB.out | refine Below.alloc ?_ (by first | exact HB.out.size | (simp; exact HB.out.size)) _ | refine bdn ?_ _)⟩
        case measure => simp [intOf]; omega
    · have hk8 : k = 23 := by omega
      subst hk8
      have HBr := Lib.hid (HB3.out.trans (hbl.mono HB3.out.size))
      rcases st_end hst HV.out with ⟨rfl, hv⟩ | ⟨rfl, rfl, hv⟩
      all_goals
        simp only [Value.tuple.injEq, Array.mk.injEq, List.cons.injEq, Value.int.injEq, true_and, and_true] at hv
        obtain ⟨rfl, rfl⟩ := hv
        clear hst hbl
        go_wp2_with (go_at_call 13; refine (mawake_c _ (HR.out.below HBr.out)).mono ?_; rintro e w5 ⟨rfl, hb5⟩)
        go_ret
        exact ⟨by simp, bthen HBr.out hb5⟩
end Go.Proofs.YtnooikjkjcflbaaDoor
