/- Proved: what the row's condition on the listed package variables gives: their cells, and that they stay where no old block is written. Conditions: that condition. -/
import Derived.Test.YtnooikjkjcflbadDoorRows
import Derived.WalkKit
import Derived.ProofKit
import Derived.LaidMore
import Derived.OpenShut
import Derived.Stop.Joined
import Derived.Lib.LaidTab
import Derived.WalkSmall
import Derived.RowKit3
import Derived.Below
namespace Go.Proofs.YtnooikjkjcflbadDoor
open Go.ChangeShapes Go.WideShapes Go.ChangeAt Go.RowKit
set_option maxRecDepth 100000
theorem mapM_at {α β : Type} {f : α → Option β} : ∀ {l : List α} {r : List β}, l.mapM f = some r → ∀ (i : Nat) (a : α), l[i]? = some a → ∃ b, r[i]? = some b ∧ f a = some b := @Go.Lib.mapM_at α β f
/-- An array of strings that reads as the table holds its strings. -/
theorem cells_of_strs {H : Type} {enc : TypeId × Value → H} {P : Program} {w : World} {base : Nat} {sp : Nat → Bool} {held : Bool} {fuel : Nat} {t e : TypeId} {n : Nat} {cs : List Value} {ss : List (List UInt8)} {p : List MemPlace}
    (ht : P.underlying t = some (.array n e)) (he : P.underlying e = some .string) (hce : P.cellsOf e = 1) (hct : P.cellsOf t = n)
    (h : DataW.trod enc P w base sp held fuel t cs = some (.agg (ss.map fun s => .lit (.string s)), p)) : cs = ss.map fun s => Value.string ⟨s.toArray⟩ := by
  obtain ⟨xs, m, rfl, hx, hl, hn, hel⟩ := DataW.trod_array ht h
  simp only [Prod.mk.injEq, DataW.agg.injEq] at hx
  have hss : ss.length = n := by have := congrArg List.length hx.1; simp at this; omega
  rw [hct] at hl
  apply List.ext_getElem?
  intro i
  by_cases hi : i < n
  · have h1 := hel i hi
    rw [hce, Nat.mul_one, List.getElem?_eq_getElem (by omega)] at h1
    obtain ⟨s, hc, hy, _⟩ := DataW.trod_string he h1
    have h2 : cs[i]? = some (.string s) := by
      have := congrArg (·[0]?) hc
      simpa [List.getElem?_take, List.getElem?_drop] using this
    have h3 := congrArg (·[i]?) hx.1
    simp only [List.getElem?_map, List.getElem?_eq_getElem (show i < xs.length by omega), Option.map_some, List.getElem?_eq_getElem (show i < ss.length by omega), Option.some.injEq] at h3
    rw [hy] at h3
    simp only [DataW.lit.injEq, Lit.string.injEq] at h3
    rw [h2, List.getElem?_map, List.getElem?_eq_getElem (by omega), h3]
    rfl
  · rw [List.getElem?_eq_none (by omega), List.getElem?_eq_none (by simp; omega)]
def namesL : List (List UInt8) := [[105, 108, 108, 101, 103, 97, 108], [108, 117, 105], [97, 117, 105, 112, 99], [106, 97, 108], [106, 97, 108, 114], [98, 101, 113], [98, 110, 101], [98, 108, 116], [98, 103, 101], [98, 108, 116, 117], [98, 103, 101, 117], [108, 98], [108, 104], [108, 119], [108, 98, 117], [108, 104, 117], [115, 98], [115, 104], [115, 119], [97, 100, 100, 105], [115, 108, 116, 105], [115, 108, 116, 105, 117], [120, 111, 114, 105], [111, 114, 105], [97, 110, 100, 105], [115, 108, 108, 105], [115, 114, 108, 105], [115, 114, 97, 105], [97, 100, 100], [115, 117, 98], [115, 108, 108], [115, 108, 116], [115, 108, 116, 117], [120, 111, 114], [115, 114, 108], [115, 114, 97], [111, 114], [97, 110, 100], [102, 101, 110, 99, 101], [102, 101, 110, 99, 101, 46, 105], [101, 99, 97, 108, 108], [101, 98, 114, 101, 97, 107], [99, 115, 114, 114, 119], [99, 115, 114, 114, 115], [99, 115, 114, 114, 99], [99, 115, 114, 114, 119, 105], [99, 115, 114, 114, 115, 105], [99, 115, 114, 114, 99, 105], [109, 114, 101, 116], [119, 102, 105], [109, 117, 108], [109, 117, 108, 104], [109, 117, 108, 104, 115, 117], [109, 117, 108, 104, 117], [100, 105, 118], [100, 105, 118, 117], [114, 101, 109], [114, 101, 109, 117]]
def nameAt (i : Nat) : ByteArray := ⟨(namesL.getD i []).toArray⟩
def NamesIs (w : World) : Prop := w.var? Tryd.prog "mimesis/inst.names" = some (namesL.map fun s => Value.string ⟨s.toArray⟩).toArray
theorem gNames : Tryd.prog.globalNamed "mimesis/inst.names" = some 0 := by kernel_rfl
theorem tNames : (Tryd.prog.globals[0]?).map (·.type) = some 106 := by kernel_rfl
theorem names_cell {w : World} (h : NamesIs w) (i : Nat) (hi : i < 58) : w.cell? ⟨0, i, none⟩ = some (.string (nameAt i)) := by
  have h1 := World.var?_cell gNames h i
  rw [h1]
  have h2 : namesL.length = 58 := rfl
  simp only [List.getElem?_toArray, List.getElem?_map, List.getElem?_eq_getElem (show i < namesL.length by omega), Option.map_some, nameAt, List.getD_eq_getElem?_getD, Option.getD_some]
theorem names_laid {w : World} {n : Nat} {sp : Nat → Bool} {held : Bool} {f : Nat} {cs : Array Value} {p : List MemPlace} {enc : TypeId × Value → Unit} (hv : w.var? Tryd.prog "mimesis/inst.names" = some cs) (hd : DataW.trod enc Tryd.prog w n sp held f 106 cs.toList = some (Rows.laid_mimesis_inst_names, p)) : NamesIs w := by
  have := cells_of_strs (n := 58) Tryd.underlying106 Tryd.underlying9 (by kernel_rfl) (by kernel_rfl) (ss := namesL) hd
  unfold NamesIs
  rw [hv, ← this]
def formsL : List Int := [0, 1, 1, 2, 3, 4, 4, 4, 4, 4, 4, 3, 3, 3, 3, 3, 5, 5, 5, 3, 3, 3, 3, 3, 3, 7, 7, 7, 6, 6, 6, 6, 6, 6, 6, 6, 6, 6, 3, 3, 0, 0, 8, 8, 8, 9, 9, 9, 0, 0, 6, 6, 6, 6, 6, 6, 6, 6]
def formsAt (i : Nat) : Int := formsL.getD i 0
def FormsIs (w : World) : Prop := w.var? Tryd.prog "mimesis/inst.forms" = some (formsL.map fun z => Value.int .i64 z).toArray
theorem gForms : Tryd.prog.globalNamed "mimesis/inst.forms" = some 1 := by kernel_rfl
theorem tForms : (Tryd.prog.globals[1]?).map (·.type) = some 107 := by kernel_rfl
theorem forms_cell {w : World} (h : FormsIs w) (i : Nat) (hi : i < 58) : w.cell? ⟨1, i, none⟩ = some (.int .i64 (formsAt i)) := by
  have h1 := World.var?_cell gForms h i
  rw [h1]
  have h2 : formsL.length = 58 := rfl
  simp only [List.getElem?_toArray, List.getElem?_map, List.getElem?_eq_getElem (show i < formsL.length by omega), Option.map_some, formsAt, List.getD_eq_getElem?_getD, Option.getD_some]
theorem forms_laid {w : World} {n : Nat} {sp : Nat → Bool} {held : Bool} {f : Nat} {cs : Array Value} {p : List MemPlace} {enc : TypeId × Value → Unit} (hv : w.var? Tryd.prog "mimesis/inst.forms" = some cs) (hd : DataW.trod enc Tryd.prog w n sp held f 107 cs.toList = some (Rows.laid_mimesis_inst_forms, p)) : FormsIs w := by
  have := Go.Lib.cells_of_tab (n := 58) (k := .i64) Tryd.underlying107 Tryd.underlying3 (by kernel_rfl) (by kernel_rfl) (zs := formsL) hd
  unfold FormsIs
  rw [hv, ← this]
theorem NamesIs.below {w w' : World} (h : NamesIs w) (hb : Below w.heap.size w w') : NamesIs w' := by
  refine var?_below hb gNames ?_ h
  have h1 := World.var?_cell gNames h 0
  exact World.block_lt_of_cell? w ⟨0, 0, none⟩ (h1.trans rfl)
theorem FormsIs.below {w w' : World} (h : FormsIs w) (hb : Below w.heap.size w w') : FormsIs w' := by
  refine var?_below hb gForms ?_ h
  have h1 := World.var?_cell gForms h 0
  exact World.block_lt_of_cell? w ⟨1, 0, none⟩ (h1.trans rfl)
end Go.Proofs.YtnooikjkjcflbadDoor
