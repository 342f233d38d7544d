/- Proved: a law for a region that draws its order, whose operations and callees write nothing that was there: it is walked once, in the order of the text, in any world that is below as the one at its beginning. Conditions: those of the law of quiet regions. -/
import Derived.Deep.QuietTactic
import Derived.BigQuiet
import Derived.WalkKit
import Derived.WalkSmall
import Derived.Below
namespace Go.Proofs.YtlnbghhhifnbdaaDoor
open Go.RowKit
set_option linter.unusedVariables false
set_option linter.unusedSimpArgs false

theorem wp_region_below {P : Program} {id : Nat} {Q : Exit → Act → World → Prop} {a : Act} {w : World} {l : List Oper} (hm : P.follows .mixedOrders = true) (hB : Region.lexB .any l.toArray = true)
    (h : ∀ (S : Type) (_ : Nonempty S) (F : S → World), (∀ s, Below w.heap.size w (F s)) → (∀ s v, Below (F s).heap.size (F s) v → ∃ s', v = F s') →
      wpQuiet P l.toArray (fun w' => ∃ s, w' = F s) (fun a' => ∀ w', (∃ s, w' = F s) → Q .normal a' w') l a) : (Code.region id l.toArray true).wp P Q a w := by
  have hs : Below w.heap.size w { w with drawn := w.drawn + 1 } := ⟨rfl, rfl, rfl, Nat.le_refl _, fun _ _ => rfl⟩
  refine wp_region_quiet (C := fun w' => ∃ s : { w' // Below w.heap.size w w' }, w' = s.val) hm hB ⟨⟨_, hs⟩, rfl⟩ ?_
  have := h { w' // Below w.heap.size w w' } ⟨⟨_, hs⟩⟩ Subtype.val (fun s => s.property) (fun s v hv => ⟨⟨v, s.property.trans (hv.mono s.property.size)⟩, rfl⟩)
  simpa using this
theorem fcell {w : World} {S : Type} {F : S → World} (hF : ∀ s, Below w.heap.size w (F s)) {b o : Nat} {v : Value} (hv : w.cell? ⟨b, o, none⟩ = some v) : ∀ s, (F s).cell? ⟨b, o, none⟩ = some v := fun s =>
  ((hF s).cell (p := ⟨b, o, none⟩) (World.block_lt_of_cell? w ⟨b, o, none⟩ hv)).trans hv
theorem qbelow {P : Program} {f : FuncId} {args : Array Value} {S : Type} {F : S → World} (hS : ∀ s v, Below (F s).heap.size (F s) v → ∃ s', v = F s') {s : S} {v : Value} (h : Calls P f args (F s) fun e w' => e = .returned v ∧ Below (F s).heap.size (F s) w') : Calls P f args (F s) fun e w' => e = .returned v ∧ ∃ s', w' = F s' :=
  h.mono fun _ _ h => ⟨h.1, hS _ _ h.2⟩
end Go.Proofs.YtlnbghhhifnbdaaDoor
