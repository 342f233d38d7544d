/- Proved: draws stand outermost: behind a new block, behind a store. Conditions: none. -/
import Derived.WalkKit
import Derived.Deep.Draws
namespace Go.Proofs.YtnooikjkjcflbadDoor

theorem alloc_out (w : World) (n : Nat) (o : Obj) : (w.drewN n).alloc o = (w.alloc o).drewN n := rfl
theorem setCell_out (w : World) (n : Nat) (p : Addr) (v : Value) : (w.drewN n).setCell p v = (w.setCell p v).drewN n := by
  unfold World.setCell
  simp only [World.heap_drewN]
  split <;> rfl
end Go.Proofs.YtnooikjkjcflbadDoor
