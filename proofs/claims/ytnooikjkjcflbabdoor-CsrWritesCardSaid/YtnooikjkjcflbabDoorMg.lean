/- Contract of the reference's Legal of layer 9. Conditions: the register is there. -/
import Derived.Test.YtnooikjkjcflbabDoorMr
namespace Go.Proofs.YtnooikjkjcflbabDoor
open Go.RowKit
set_option linter.unusedVariables false
set_option linter.unusedSimpArgs false

set_option maxRecDepth 100000 in
theorem rlegal_c (csr x : Int) (k : Nat) (hk : k < 23) (hf : FirstRow (fun r => r.num == csr) k) (w : World) : Calls Tryd.prog 64 #[.int .i64 csr, .int .u32 x] w fun e w' => e = .returned (.int .u32 (legV k x)) ∧ Below w.heap.size w w' := by
  have HF := Lib.hid hf
  clear hf
  have h1 := row_map (fun r => .int .u32 r.kept) k hk
  have h2 := row_map (fun r => .int .u32 r.fixed) k hk
  generalize hA : (rowsL.map fun r => Value.int .u32 r.kept) = LA at h1
  generalize hB : (rowsL.map fun r => Value.int .u32 r.fixed) = LB at h2
  have hka := fun v => hA ▸ rkept_c v
  have hkb := fun v => hB ▸ rfixed_c v
  have HKA := Lib.hid hka
  have HKB := Lib.hid hkb
  clear hA hB hka hkb
  unfold legV
  go_enter Tryd.func64, Tryd.ntmps64
  go_wp2_with fail
  refine (place_c csr _).mono ?_
  rintro e w1 ⟨⟨v, rfl, hv⟩, hb1⟩
  obtain rfl := hv.unique HF.out
  clear hv
  have hz := hb1.size
  go_wp2
  have i1 : (0 : Int) ≤ (k : Int) := by omega
  have i2 : (k : Int) < 23 := by omega
  go_region_with (first | (go_at_call 79; refine (HKA.out _).mono ?_; rintro e w' ⟨rfl, rfl⟩) | (go_at_call 80; refine (HKB.out _).mono ?_; rintro e w' ⟨rfl, rfl⟩))
  all_goals
    go_wp2
    go_ret
    exact ⟨rfl, by repeat (first | assumption | refine Below.drew ?_ | refine bdn ?_ _ | refine Below.alloc ?_ (by first | omega | (simp; omega)) _)⟩
end Go.Proofs.YtnooikjkjcflbabDoor
