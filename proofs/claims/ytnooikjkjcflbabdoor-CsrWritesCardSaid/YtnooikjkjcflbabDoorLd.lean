/- Proved: what the row's condition on the listed package variables gives: their cells, and that they stay where no old block is written. Conditions: that condition. -/
import Derived.Test.YtnooikjkjcflbabDoorRows
import Derived.WalkKit
import Derived.ProofKit
import Derived.LaidMore
import Derived.OpenShut
import Derived.Stop.Joined
import Derived.Lib.LaidTab
import Derived.WalkSmall
import Derived.RowKit3
import Derived.Below
namespace Go.Proofs.YtnooikjkjcflbabDoor
open Go.ChangeShapes Go.WideShapes Go.ChangeAt Go.RowKit
set_option maxRecDepth 100000
theorem mapM_at {α β : Type} {f : α → Option β} : ∀ {l : List α} {r : List β}, l.mapM f = some r → ∀ (i : Nat) (a : α), l[i]? = some a → ∃ b, r[i]? = some b ∧ f a = some b := @Go.Lib.mapM_at α β f
/-- An array of strings that reads as the table holds its strings. -/
theorem cells_of_strs {H : Type} {enc : TypeId × Value → H} {P : Program} {w : World} {base : Nat} {sp : Nat → Bool} {held : Bool} {fuel : Nat} {t e : TypeId} {n : Nat} {cs : List Value} {ss : List (List UInt8)} {p : List MemPlace}
    (ht : P.underlying t = some (.array n e)) (he : P.underlying e = some .string) (hce : P.cellsOf e = 1) (hct : P.cellsOf t = n)
    (h : DataW.trod enc P w base sp held fuel t cs = some (.agg (ss.map fun s => .lit (.string s)), p)) : cs = ss.map fun s => Value.string ⟨s.toArray⟩ := by
  obtain ⟨xs, m, rfl, hx, hl, hn, hel⟩ := DataW.trod_array ht h
  simp only [Prod.mk.injEq, DataW.agg.injEq] at hx
  have hss : ss.length = n := by have := congrArg List.length hx.1; simp at this; omega
  rw [hct] at hl
  apply List.ext_getElem?
  intro i
  by_cases hi : i < n
  · have h1 := hel i hi
    rw [hce, Nat.mul_one, List.getElem?_eq_getElem (by omega)] at h1
    obtain ⟨s, hc, hy, _⟩ := DataW.trod_string he h1
    have h2 : cs[i]? = some (.string s) := by
      have := congrArg (·[0]?) hc
      simpa [List.getElem?_take, List.getElem?_drop] using this
    have h3 := congrArg (·[i]?) hx.1
    simp only [List.getElem?_map, List.getElem?_eq_getElem (show i < xs.length by omega), Option.map_some, List.getElem?_eq_getElem (show i < ss.length by omega), Option.some.injEq] at h3
    rw [hy] at h3
    simp only [DataW.lit.injEq, Lit.string.injEq] at h3
    rw [h2, List.getElem?_map, List.getElem?_eq_getElem (by omega), h3]
    rfl
  · rw [List.getElem?_eq_none (by omega), List.getElem?_eq_none (by simp; omega)]
def namesL : List (List UInt8) := [[105, 108, 108, 101, 103, 97, 108], [108, 117, 105], [97, 117, 105, 112, 99], [106, 97, 108], [106, 97, 108, 114], [98, 101, 113], [98, 110, 101], [98, 108, 116], [98, 103, 101], [98, 108, 116, 117], [98, 103, 101, 117], [108, 98], [108, 104], [108, 119], [108, 98, 117], [108, 104, 117], [115, 98], [115, 104], [115, 119], [97, 100, 100, 105], [115, 108, 116, 105], [115, 108, 116, 105, 117], [120, 111, 114, 105], [111, 114, 105], [97, 110, 100, 105], [115, 108, 108, 105], [115, 114, 108, 105], [115, 114, 97, 105], [97, 100, 100], [115, 117, 98], [115, 108, 108], [115, 108, 116], [115, 108, 116, 117], [120, 111, 114], [115, 114, 108], [115, 114, 97], [111, 114], [97, 110, 100], [102, 101, 110, 99, 101], [102, 101, 110, 99, 101, 46, 105], [101, 99, 97, 108, 108], [101, 98, 114, 101, 97, 107], [99, 115, 114, 114, 119], [99, 115, 114, 114, 115], [99, 115, 114, 114, 99], [99, 115, 114, 114, 119, 105], [99, 115, 114, 114, 115, 105], [99, 115, 114, 114, 99, 105], [109, 114, 101, 116], [119, 102, 105], [109, 117, 108], [109, 117, 108, 104], [109, 117, 108, 104, 115, 117], [109, 117, 108, 104, 117], [100, 105, 118], [100, 105, 118, 117], [114, 101, 109], [114, 101, 109, 117]]
def nameAt (i : Nat) : ByteArray := ⟨(namesL.getD i []).toArray⟩
def NamesIs (w : World) : Prop := w.var? Tryd.prog "mimesis/inst.names" = some (namesL.map fun s => Value.string ⟨s.toArray⟩).toArray
theorem gNames : Tryd.prog.globalNamed "mimesis/inst.names" = some 1 := by kernel_rfl
theorem tNames : (Tryd.prog.globals[1]?).map (·.type) = some 109 := by kernel_rfl
theorem names_cell {w : World} (h : NamesIs w) (i : Nat) (hi : i < 58) : w.cell? ⟨1, i, none⟩ = some (.string (nameAt i)) := by
  have h1 := World.var?_cell gNames h i
  rw [h1]
  have h2 : namesL.length = 58 := rfl
  simp only [List.getElem?_toArray, List.getElem?_map, List.getElem?_eq_getElem (show i < namesL.length by omega), Option.map_some, nameAt, List.getD_eq_getElem?_getD, Option.getD_some]
theorem names_laid {w : World} {n : Nat} {sp : Nat → Bool} {held : Bool} {f : Nat} {cs : Array Value} {p : List MemPlace} {enc : TypeId × Value → Unit} (hv : w.var? Tryd.prog "mimesis/inst.names" = some cs) (hd : DataW.trod enc Tryd.prog w n sp held f 109 cs.toList = some (Rows.laid_mimesis_inst_names, p)) : NamesIs w := by
  have := cells_of_strs (n := 58) Tryd.underlying109 Tryd.underlying9 (by kernel_rfl) (by kernel_rfl) (ss := namesL) hd
  unfold NamesIs
  rw [hv, ← this]
def formsL : List Int := [0, 1, 1, 2, 3, 4, 4, 4, 4, 4, 4, 3, 3, 3, 3, 3, 5, 5, 5, 3, 3, 3, 3, 3, 3, 7, 7, 7, 6, 6, 6, 6, 6, 6, 6, 6, 6, 6, 3, 3, 0, 0, 8, 8, 8, 9, 9, 9, 0, 0, 6, 6, 6, 6, 6, 6, 6, 6]
def formsAt (i : Nat) : Int := formsL.getD i 0
def FormsIs (w : World) : Prop := w.var? Tryd.prog "mimesis/inst.forms" = some (formsL.map fun z => Value.int .i64 z).toArray
theorem gForms : Tryd.prog.globalNamed "mimesis/inst.forms" = some 2 := by kernel_rfl
theorem tForms : (Tryd.prog.globals[2]?).map (·.type) = some 110 := by kernel_rfl
theorem forms_cell {w : World} (h : FormsIs w) (i : Nat) (hi : i < 58) : w.cell? ⟨2, i, none⟩ = some (.int .i64 (formsAt i)) := by
  have h1 := World.var?_cell gForms h i
  rw [h1]
  have h2 : formsL.length = 58 := rfl
  simp only [List.getElem?_toArray, List.getElem?_map, List.getElem?_eq_getElem (show i < formsL.length by omega), Option.map_some, formsAt, List.getD_eq_getElem?_getD, Option.getD_some]
theorem forms_laid {w : World} {n : Nat} {sp : Nat → Bool} {held : Bool} {f : Nat} {cs : Array Value} {p : List MemPlace} {enc : TypeId × Value → Unit} (hv : w.var? Tryd.prog "mimesis/inst.forms" = some cs) (hd : DataW.trod enc Tryd.prog w n sp held f 110 cs.toList = some (Rows.laid_mimesis_inst_forms, p)) : FormsIs w := by
  have := Go.Lib.cells_of_tab (n := 58) (k := .i64) Tryd.underlying110 Tryd.underlying3 (by kernel_rfl) (by kernel_rfl) (zs := formsL) hd
  unfold FormsIs
  rw [hv, ← this]
def matchesL : List Int := [0, 55, 23, 111, 103, 99, 4195, 16483, 20579, 24675, 28771, 3, 4099, 8195, 16387, 20483, 35, 4131, 8227, 19, 8211, 12307, 16403, 24595, 28691, 4115, 20499, 1073762323, 51, 1073741875, 4147, 8243, 12339, 16435, 20531, 1073762355, 24627, 28723, 15, 4111, 115, 1048691, 4211, 8307, 12403, 20595, 24691, 28787, 807403635, 273678451, 33554483, 33558579, 33562675, 33566771, 33570867, 33574963, 33579059, 33583155]
def matchesAt (i : Nat) : Int := matchesL.getD i 0
def MatchesIs (w : World) : Prop := w.var? Tryd.prog "mimesis/encode.matches" = some (matchesL.map fun z => Value.int .u32 z).toArray
theorem gMatches : Tryd.prog.globalNamed "mimesis/encode.matches" = some 0 := by kernel_rfl
theorem tMatches : (Tryd.prog.globals[0]?).map (·.type) = some 86 := by kernel_rfl
theorem matches_cell {w : World} (h : MatchesIs w) (i : Nat) (hi : i < 58) : w.cell? ⟨0, i, none⟩ = some (.int .u32 (matchesAt i)) := by
  have h1 := World.var?_cell gMatches h i
  rw [h1]
  have h2 : matchesL.length = 58 := rfl
  simp only [List.getElem?_toArray, List.getElem?_map, List.getElem?_eq_getElem (show i < matchesL.length by omega), Option.map_some, matchesAt, List.getD_eq_getElem?_getD, Option.getD_some]
theorem matches_laid {w : World} {n : Nat} {sp : Nat → Bool} {held : Bool} {f : Nat} {cs : Array Value} {p : List MemPlace} {enc : TypeId × Value → Unit} (hv : w.var? Tryd.prog "mimesis/encode.matches" = some cs) (hd : DataW.trod enc Tryd.prog w n sp held f 86 cs.toList = some (Rows.laid_mimesis_encode_matches, p)) : MatchesIs w := by
  have := Go.Lib.cells_of_tab (n := 58) (k := .u32) Tryd.underlying86 Tryd.underlying22 (by kernel_rfl) (by kernel_rfl) (zs := matchesL) hd
  unfold MatchesIs
  rw [hv, ← this]
structure MRow where
  num : Int
  name : List UInt8
  kept : Int
  fixed : Int
def rowsL : List MRow := [⟨768, [109, 115, 116, 97, 116, 117, 115], 136, 6144⟩, ⟨769, [109, 105, 115, 97], 0, 1073746176⟩, ⟨772, [109, 105, 101], 2184, 0⟩, ⟨773, [109, 116, 118, 101, 99], 4294967293, 0⟩, ⟨832, [109, 115, 99, 114, 97, 116, 99, 104], 4294967295, 0⟩, ⟨833, [109, 101, 112, 99], 4294967292, 0⟩, ⟨834, [109, 99, 97, 117, 115, 101], 4294967295, 0⟩, ⟨835, [109, 116, 118, 97, 108], 4294967295, 0⟩, ⟨836, [109, 105, 112], 0, 0⟩, ⟨2816, [109, 99, 121, 99, 108, 101], 4294967295, 0⟩, ⟨2818, [109, 105, 110, 115, 116, 114, 101, 116], 4294967295, 0⟩, ⟨2944, [109, 99, 121, 99, 108, 101, 104], 4294967295, 0⟩, ⟨2946, [109, 105, 110, 115, 116, 114, 101, 116, 104], 4294967295, 0⟩, ⟨3072, [99, 121, 99, 108, 101], 0, 0⟩, ⟨3073, [116, 105, 109, 101], 0, 0⟩, ⟨3074, [105, 110, 115, 116, 114, 101, 116], 0, 0⟩, ⟨3200, [99, 121, 99, 108, 101, 104], 0, 0⟩, ⟨3201, [116, 105, 109, 101, 104], 0, 0⟩, ⟨3202, [105, 110, 115, 116, 114, 101, 116, 104], 0, 0⟩, ⟨3857, [109, 118, 101, 110, 100, 111, 114, 105, 100], 0, 0⟩, ⟨3858, [109, 97, 114, 99, 104, 105, 100], 0, 0⟩, ⟨3859, [109, 105, 109, 112, 105, 100], 0, 0⟩, ⟨3860, [109, 104, 97, 114, 116, 105, 100], 0, 0⟩]
def MRow.cells (r : MRow) : List Value := [.int .i64 r.num, .string ⟨r.name.toArray⟩, .int .u32 r.kept, .int .u32 r.fixed]
def MRow.dat {H : Type} (r : MRow) : DataW H := .agg [.lit (.int .i64 r.num), .lit (.string r.name), .lit (.int .u32 r.kept), .lit (.int .u32 r.fixed)]
def RowsIs (w : World) : Prop := w.var? Tryd.prog "mimesis/mask.rows" = some (rowsL.flatMap MRow.cells).toArray
theorem gRows : Tryd.prog.globalNamed "mimesis/mask.rows" = some 3 := by kernel_rfl
theorem tRows : (Tryd.prog.globals[3]?).map (·.type) = some 115 := by kernel_rfl
def rowAt (i : Nat) : MRow := rowsL.getD i ⟨0, [], 0, 0⟩
theorem flat_at : ∀ (l : List MRow) (i j : Nat), j < 4 → i < l.length → (l.flatMap MRow.cells)[4 * i + j]? = ((l.getD i ⟨0, [], 0, 0⟩).cells)[j]?
  | [], i, j, _, h => by simp at h
  | r :: l, 0, j, hj, _ => by
    rw [List.flatMap_cons, List.getElem?_append_left (by simp [MRow.cells]; omega)]
    simp
  | r :: l, i + 1, j, hj, h => by
    rw [List.flatMap_cons, List.getElem?_append_right (by simp [MRow.cells]; omega)]
    have e : 4 * (i + 1) + j - r.cells.length = 4 * i + j := by simp [MRow.cells]; omega
    rw [e, flat_at l i j hj (by simpa using h)]
    simp
theorem rows_cell {w : World} (h : RowsIs w) (i j : Nat) (hi : i < 23) (hj : j < 4) : w.cell? ⟨3, 4 * i + j, none⟩ = ((rowAt i).cells)[j]? := by
  have h1 := World.var?_cell gRows h (4 * i + j)
  rw [h1, List.getElem?_toArray]
  exact flat_at rowsL i j hj hi
theorem cells_of_rows {H : Type} {enc : TypeId × Value → H} {w : World} {base : Nat} {sp : Nat → Bool} {held : Bool} {fuel : Nat} {cs : List Value} {p : List MemPlace}
    (h : DataW.trod enc Tryd.prog w base sp held fuel 115 cs = some (.agg (rowsL.map MRow.dat), p)) : cs = rowsL.flatMap MRow.cells := by
  have ce : Tryd.prog.cellsOf 113 = 4 := by kernel_rfl
  have ct : Tryd.prog.cellsOf 115 = 92 := by kernel_rfl
  have c0 : Tryd.prog.cellsOf 3 = 1 := by kernel_rfl
  have c1 : Tryd.prog.cellsOf 9 = 1 := by kernel_rfl
  have c2 : Tryd.prog.cellsOf 22 = 1 := by kernel_rfl
  obtain ⟨xs, m, rfl, hx, hl, hn, hel⟩ := DataW.trod_array Tryd.underlying115 h
  simp only [Prod.mk.injEq, DataW.agg.injEq] at hx
  rw [ct] at hl
  have hrl : rowsL.length = 23 := rfl
  have key : ∀ i, i < 23 → (cs.drop (i * 4)).take 4 = (rowAt i).cells := by
    intro i hi
    have h1 := hel i hi
    rw [ce, List.getElem?_eq_getElem (by omega)] at h1
    obtain ⟨ys, n, rfl, hy, hyl, hyn, hf⟩ := DataW.trod_struct Tryd.underlying113 h1
    have f0 := hf 0 _ rfl
    have f1 := hf 1 _ rfl
    have f2 := hf 2 _ rfl
    have f3 := hf 3 _ rfl
    match ys, hyn, f0, f1, f2, f3, hy with
    | [y0, y1, y2, y3], _, f0, f1, f2, f3, hy =>
      obtain ⟨n0, e0, z0, _⟩ := DataW.trod_int Tryd.underlying3 (show _ = some y0 from f0)
      obtain ⟨n1, e1, z1, _⟩ := DataW.trod_string Tryd.underlying9 (show _ = some y1 from f1)
      obtain ⟨n2, e2, z2, _⟩ := DataW.trod_int Tryd.underlying22 (show _ = some y2 from f2)
      obtain ⟨n3, e3, z3, _⟩ := DataW.trod_int Tryd.underlying22 (show _ = some y3 from f3)
      have h3 := congrArg (·[i]?) hx.1
      simp only [List.getElem?_map, List.getElem?_eq_getElem (show i < xs.length by omega), Option.map_some, List.getElem?_eq_getElem (show i < rowsL.length by omega), Option.some.injEq] at h3
      rw [hy, z0, z1, z2, z3] at h3
      simp only [List.map_cons, List.map_nil, MRow.dat, DataW.agg.injEq, List.cons.injEq, DataW.lit.injEq, Lit.int.injEq, Lit.string.injEq, true_and, and_true] at h3
      have hr : rowAt i = rowsL[i]'(by omega) := by unfold rowAt; rw [List.getD_eq_getElem?_getD, List.getElem?_eq_getElem (by omega)]; rfl
      rw [hr]
      obtain ⟨r0, r1, r2, r3⟩ := h3
      unfold MRow.cells
      generalize (cs.drop (i * 4)).take 4 = q at *
      change (q.drop 0).take (Tryd.prog.cellsOf 3) = _ at e0
      change (q.drop 1).take (Tryd.prog.cellsOf 9) = _ at e1
      change (q.drop 2).take (Tryd.prog.cellsOf 22) = _ at e2
      change (q.drop 3).take (Tryd.prog.cellsOf 22) = _ at e3
      rw [c0] at e0
      rw [c1] at e1
      rw [c2] at e2 e3
      rw [ce] at hyl
      match q, hyl, e0, e1, e2, e3 with
      | [q0, q1, q2, q3], _, e0, e1, e2, e3 =>
        simp at e0 e1 e2 e3
        have r4 : n1 = ⟨(rowsL[i]'(by omega)).name.toArray⟩ := by obtain ⟨d⟩ := n1; simp only [ByteArray.mk.injEq]; rw [r1]
        rw [e0, e1, e2, e3, ← r0, r4, ← r2, ← r3]
  apply List.ext_getElem?
  intro k
  by_cases hk : k < 92
  · have h4 := key (k / 4) (by omega)
    have h5 := congrArg (·[k % 4]?) h4
    simp only [List.getElem?_take, List.getElem?_drop] at h5
    rw [if_pos (Nat.mod_lt _ (by decide))] at h5
    rw [show k / 4 * 4 + k % 4 = k by omega] at h5
    rw [h5]
    unfold rowAt
    rw [← flat_at rowsL (k / 4) (k % 4) (Nat.mod_lt _ (by decide)) (by omega), show 4 * (k / 4) + k % 4 = k by omega]
  · rw [List.getElem?_eq_none (by omega), List.getElem?_eq_none (by rw [show (rowsL.flatMap MRow.cells).length = 92 from rfl]; omega)]
theorem rows_laid {w : World} {n : Nat} {sp : Nat → Bool} {held : Bool} {f : Nat} {cs : Array Value} {p : List MemPlace} {enc : TypeId × Value → Unit} (hv : w.var? Tryd.prog "mimesis/mask.rows" = some cs) (hd : DataW.trod enc Tryd.prog w n sp held f 115 cs.toList = some (Rows.laid_mimesis_mask_rows, p)) : RowsIs w := by
  have := cells_of_rows hd
  unfold RowsIs
  rw [hv, ← this]
theorem NamesIs.below {w w' : World} (h : NamesIs w) (hb : Below w.heap.size w w') : NamesIs w' := by
  refine var?_below hb gNames ?_ h
  have h1 := World.var?_cell gNames h 0
  exact World.block_lt_of_cell? w ⟨1, 0, none⟩ (h1.trans rfl)
theorem FormsIs.below {w w' : World} (h : FormsIs w) (hb : Below w.heap.size w w') : FormsIs w' := by
  refine var?_below hb gForms ?_ h
  have h1 := World.var?_cell gForms h 0
  exact World.block_lt_of_cell? w ⟨2, 0, none⟩ (h1.trans rfl)
theorem RowsIs.below {w w' : World} (h : RowsIs w) (hb : Below w.heap.size w w') : RowsIs w' := by
  refine var?_below hb gRows ?_ h
  have h1 := World.var?_cell gRows h 0
  exact World.block_lt_of_cell? w ⟨3, 0, none⟩ (h1.trans rfl)
theorem MatchesIs.below {w w' : World} (h : MatchesIs w) (hb : Below w.heap.size w w') : MatchesIs w' := by
  refine var?_below hb gMatches ?_ h
  have h1 := World.var?_cell gMatches h 0
  exact World.block_lt_of_cell? w ⟨0, 0, none⟩ (h1.trans rfl)
end Go.Proofs.YtnooikjkjcflbabDoor
