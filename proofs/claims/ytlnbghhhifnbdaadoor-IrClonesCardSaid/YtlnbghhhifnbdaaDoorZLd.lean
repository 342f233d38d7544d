/- Proved: what the row's condition on the listed package variables gives: their cells, and that they stay where no old block is written. Conditions: that condition. -/
import Derived.Test.YtlnbghhhifnbdaaDoorRows
import Derived.WalkKit
import Derived.ProofKit
import Derived.LaidMore
import Derived.OpenShut
import Derived.Stop.Joined
import Derived.Lib.LaidTab
import Derived.WalkSmall
import Derived.RowKit3
import Derived.Below
namespace Go.Proofs.YtlnbghhhifnbdaaDoor
open Go.ChangeShapes Go.WideShapes Go.ChangeAt Go.RowKit
set_option maxRecDepth 100000
/-- An array of strings that reads as the table holds its strings. -/
theorem cells_of_strs {H : Type} {enc : TypeId × Value → H} {P : Program} {w : World} {base : Nat} {sp : Nat → Bool} {held : Bool} {fuel : Nat} {t e : TypeId} {n : Nat} {cs : List Value} {ss : List (List UInt8)} {p : List MemPlace}
    (ht : P.underlying t = some (.array n e)) (he : P.underlying e = some .string) (hce : P.cellsOf e = 1) (hct : P.cellsOf t = n)
    (h : DataW.trod enc P w base sp held fuel t cs = some (.agg (ss.map fun s => .lit (.string s)), p)) : cs = ss.map fun s => Value.string ⟨s.toArray⟩ := by
  obtain ⟨xs, m, rfl, hx, hl, hn, hel⟩ := DataW.trod_array ht h
  simp only [Prod.mk.injEq, DataW.agg.injEq] at hx
  have hss : ss.length = n := by have := congrArg List.length hx.1; simp at this; omega
  rw [hct] at hl
  apply List.ext_getElem?
  intro i
  by_cases hi : i < n
  · have h1 := hel i hi
    rw [hce, Nat.mul_one, List.getElem?_eq_getElem (by omega)] at h1
    obtain ⟨s, hc, hy, _⟩ := DataW.trod_string he h1
    have h2 : cs[i]? = some (.string s) := by
      have := congrArg (·[0]?) hc
      simpa [List.getElem?_take, List.getElem?_drop] using this
    have h3 := congrArg (·[i]?) hx.1
    simp only [List.getElem?_map, List.getElem?_eq_getElem (show i < xs.length by omega), Option.map_some, List.getElem?_eq_getElem (show i < ss.length by omega), Option.some.injEq] at h3
    rw [hy] at h3
    simp only [DataW.lit.injEq, Lit.string.injEq] at h3
    rw [h2, List.getElem?_map, List.getElem?_eq_getElem (by omega), h3]
    rfl
  · rw [List.getElem?_eq_none (by omega), List.getElem?_eq_none (by simp; omega)]
def namesL : List (List UInt8) := [[105, 108, 108, 101, 103, 97, 108], [108, 117, 105], [97, 117, 105, 112, 99], [106, 97, 108], [106, 97, 108, 114], [98, 101, 113], [98, 110, 101], [98, 108, 116], [98, 103, 101], [98, 108, 116, 117], [98, 103, 101, 117], [108, 98], [108, 104], [108, 119], [108, 98, 117], [108, 104, 117], [115, 98], [115, 104], [115, 119], [97, 100, 100, 105], [115, 108, 116, 105], [115, 108, 116, 105, 117], [120, 111, 114, 105], [111, 114, 105], [97, 110, 100, 105], [115, 108, 108, 105], [115, 114, 108, 105], [115, 114, 97, 105], [97, 100, 100], [115, 117, 98], [115, 108, 108], [115, 108, 116], [115, 108, 116, 117], [120, 111, 114], [115, 114, 108], [115, 114, 97], [111, 114], [97, 110, 100], [102, 101, 110, 99, 101], [102, 101, 110, 99, 101, 46, 105], [101, 99, 97, 108, 108], [101, 98, 114, 101, 97, 107], [99, 115, 114, 114, 119], [99, 115, 114, 114, 115], [99, 115, 114, 114, 99], [99, 115, 114, 114, 119, 105], [99, 115, 114, 114, 115, 105], [99, 115, 114, 114, 99, 105], [109, 114, 101, 116], [119, 102, 105], [109, 117, 108], [109, 117, 108, 104], [109, 117, 108, 104, 115, 117], [109, 117, 108, 104, 117], [100, 105, 118], [100, 105, 118, 117], [114, 101, 109], [114, 101, 109, 117]]
def nameAt (i : Nat) : ByteArray := ⟨(namesL.getD i []).toArray⟩
def NamesIs (w : World) : Prop := w.var? Tryd.prog "mimesis/inst.names" = some (namesL.map fun s => Value.string ⟨s.toArray⟩).toArray
theorem gNames : Tryd.prog.globalNamed "mimesis/inst.names" = some 0 := by kernel_rfl
theorem tNames : (Tryd.prog.globals[0]?).map (·.type) = some 98 := by kernel_rfl
theorem names_cell {w : World} (h : NamesIs w) (i : Nat) (hi : i < 58) : w.cell? ⟨0, i, none⟩ = some (.string (nameAt i)) := by
  have h1 := World.var?_cell gNames h i
  rw [h1]
  have h2 : namesL.length = 58 := rfl
  simp only [List.getElem?_toArray, List.getElem?_map, List.getElem?_eq_getElem (show i < namesL.length by omega), Option.map_some, nameAt, List.getD_eq_getElem?_getD, Option.getD_some]
theorem names_laid {w : World} {n : Nat} {sp : Nat → Bool} {held : Bool} {f : Nat} {cs : Array Value} {p : List MemPlace} {enc : TypeId × Value → Unit} (hv : w.var? Tryd.prog "mimesis/inst.names" = some cs) (hd : DataW.trod enc Tryd.prog w n sp held f 98 cs.toList = some (Rows.laid_mimesis_inst_names, p)) : NamesIs w := by
  have := cells_of_strs (n := 58) Tryd.underlying98 Tryd.underlying9 (by kernel_rfl) (by kernel_rfl) (ss := namesL) hd
  unfold NamesIs
  rw [hv, ← this]
theorem NamesIs.below {w w' : World} (h : NamesIs w) (hb : Below w.heap.size w w') : NamesIs w' := by
  refine var?_below hb gNames ?_ h
  have h1 := World.var?_cell gNames h 0
  exact World.block_lt_of_cell? w ⟨0, 0, none⟩ (h1.trans rfl)
end Go.Proofs.YtlnbghhhifnbdaaDoor
