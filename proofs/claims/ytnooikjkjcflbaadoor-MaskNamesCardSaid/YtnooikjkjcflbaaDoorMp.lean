/- Contract of mask.Numbers: it answers all rows' numbers. Conditions: the listed variable holds what the program's text lays in it. -/
import Derived.Test.YtnooikjkjcflbaaDoorMl
import Derived.Deep.MidRow
import Derived.OwnWalk
namespace Go.Proofs.YtnooikjkjcflbaaDoor
open Go.RowKit
set_option linter.unusedVariables false
set_option linter.unusedSimpArgs false

theorem info_int : (Tryd.prog.info? 3).map (fun i => (i.zero, i.size, i.bytes)) = some (some (.int .i64 0), 1, 8) := by kernel_rfl
theorem rows_range {w : World} (h : RowsIs w) : w.rangeAt 0 0 (rowsL.flatMap MRow.cells) := by
  intro j v hv
  have := World.var?_cell gRows h j
  rw [Nat.zero_add, this, List.getElem?_toArray, hv]
theorem flat_take : ∀ (l : List MRow) (i : Nat), i < l.length → ((l.flatMap MRow.cells).drop (4 * i)).take 4 = (l.getD i ⟨0, [], 0, 0⟩).cells
  | [], i, h => by simp at h
  | r :: l, 0, _ => by simp [List.flatMap_cons, MRow.cells]
  | r :: l, i + 1, h => by
    rw [List.flatMap_cons, show 4 * (i + 1) = r.cells.length + 4 * i by simp [MRow.cells]; omega, List.drop_append, List.drop_eq_nil_of_le (by omega), Nat.add_sub_cancel_left, List.nil_append, flat_take l i (by simpa using h)]
    simp
theorem idx_row (k : Nat) (hk : k < 23) (w : World) : (Instr.index 71 (.agg (rowsL.flatMap MRow.cells).toArray) (.int .i64 k)).run Tryd.prog w = .ok (.agg (rowAt k).cells.toArray) w := by
  have h1 : (0 : Int) ≤ (k : Int) ∧ (k : Int) < 23 := by omega
  have h3 : (isAgg 69).run Tryd.prog w = .ok true w := by kernel_rfl
  have h4 : (sizeOf 69).run Tryd.prog w = .ok 4 w := by kernel_rfl
  have h5 : ((rowsL.flatMap MRow.cells).toArray.extract (k * 4) (k * 4 + 4)) = (rowAt k).cells.toArray := by
    have := flat_take rowsL k hk
    unfold rowAt
    rw [← this, List.extract_toArray, List.extract_eq_take_drop, show k * 4 + 4 - k * 4 = 4 by omega, Nat.mul_comm]
  simp only [Instr.index, asIntOf, Sem.run_bind, Sem.run_pure, Result.andThen_ok, run_underlying Tryd.underlying71 w]
  rw [if_pos (by omega)]
  simp only [Sem.run_bind, Sem.run_pure, Result.andThen_ok, h4, part, h3, Int.toNat_natCast, h5, if_true]
theorem take_num (k : Nat) (hk : k < 23) : (rowsL.take (k + 1)).map (fun r => Value.int .i64 r.num) = (rowsL.take k).map (fun r => Value.int .i64 r.num) ++ [.int .i64 (rowAt k).num] := by
  have hl : rowsL.length = 23 := rfl
  rw [List.take_add_one, List.getElem?_eq_getElem (by omega), List.map_append]
  unfold rowAt
  rw [List.getD_eq_getElem?_getD, List.getElem?_eq_getElem (by omega)]
  rfl
set_option maxHeartbeats 2000000 in
theorem numbers_c (w : World) (hr : RowsIs w) : Calls Tryd.prog 21 #[] w fun e w' => (∃ v, e = .returned v ∧ w'.ownsRow w.heap.size 3 1 v 23 (rowsL.map fun r => .int .i64 r.num)) ∧ Below w.heap.size w w' := by
  have hl := Lib.hid (rows_range hr)
  obtain ⟨i0, hi, hz0, hz1, hz2⟩ := info_parts info_int
  clear hr
  have hlen : (Tryd.prog.info? 71).map (·.size) = some (rowsL.flatMap MRow.cells).length := by kernel_rfl
  generalize hL : rowsL.flatMap MRow.cells = L at hl hlen
  have HL := Lib.hid hL
  have HN := Lib.hid hlen
  clear hL hlen
  go_enter Tryd.func21, Tryd.ntmps21
  go_wp2_with (refine wpList_load_mid rfl 71 _ rfl 0 0 rfl L _ hl.out Tryd.underlying71 rfl HN.out ?_)
  go_loopw [5, 1] (fun i v wr => ∃ k : Nat, k ≤ 23 ∧ i = .int .i64 k ∧ wr.ownsRow w.heap.size 3 1 v k ((rowsL.take k).map fun r => .int .i64 r.num) ∧ Below w.heap.size w wr) (fun i _ _ => 23 - (intOf i).toNat)
  case atStart => exact ⟨0, by omega, rfl, World.ownsRow_nil _ _ _ _, Below.refl _ _⟩
  case round =>
    obtain ⟨k, hk, rfl, hown, hbl⟩ := hrel
    have HO := Lib.hid hown
    have HB := Lib.hid hbl
    clear hown hbl
    by_cases hlt : k < 23
    · have hix := idx_row k hlt
      rw [HL.out] at hix
      simp only [MRow.cells] at hix
      have i1 : (0 : Int) ≤ (k : Int) := by omega
      have i2 : (k : Int) < 23 := by omega
      go_wp2_with (at_builtin; go_loud (refine wpList_append_own _ rfl _ _ 41 rfl w.heap.size 3 i0 (.int .i64 0) 1 8 Tryd.underlying41 hi hz0 hz1 hz2 rfl (by decide) _ _ _ rfl ((HO.out.alloc _).alloc _) ⟨wr.heap.size + 1, 0, none⟩ 1 1 [.int .i64 (rowAt k).num] rfl rfl ?c1 ?c2 ?c3 ?c4 ?c5 ?_))
      case c1 =>
        intro j u hj
        match j, hj with
        | 0, hj => simp at hj; subst hj; simp [Addr.add]
      case c2 => intro u hu; simp at hu; subst hu; rfl
      case c3 => unfold maxLen; omega
      case c4 => omega
      case c5 => have := HB.out.size; simp; omega
      intro v' w1 hown' hgrow _
      have HB1 := Lib.hid hgrow
      have HO1 := Lib.hid hown'
      clear hown' hgrow
      go_wp2
      go_roundw
      case rel =>
        refine ⟨k + 1, by omega, by go_num, ?_, ?_⟩
        · have := HO1.out
          rw [show (rowsL.take (k + 1)).map (fun r => Value.int .i64 r.num) = (rowsL.take k).map (fun r => Value.int .i64 r.num) ++ [.int .i64 (rowAt k).num] from take_num k hlt, List.map_take]
          exact this
        · exact (bal (bal HB.out _) _).grown HB1.out (by have := HB.out.size; simp; omega) (fun q hq => (HO.out.lt q hq).1)
      case measure => simp [intOf]; omega
    · have hk8 : k = 23 := by omega
      subst hk8
      go_wp2
      go_ret
      exact ⟨⟨_, rfl, HO.out⟩, HB.out⟩
end Go.Proofs.YtnooikjkjcflbaaDoor
