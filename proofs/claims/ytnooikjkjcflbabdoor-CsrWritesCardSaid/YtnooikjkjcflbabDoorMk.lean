/- Contracts of package mask's functions (Find, Number, Numbers, Legal, Writes) and of what they call. Conditions: the listed variable holds what the program's text lays in it. -/
import Derived.Test.YtnooikjkjcflbabDoorIn0
import Derived.Test.YtnooikjkjcflbabDoorRg
namespace Go.Proofs.YtnooikjkjcflbabDoor
open Go.RowKit
set_option linter.unusedVariables false
set_option linter.unusedSimpArgs false

theorem mhmf (fn : Fn) (first cap : Array Value) (w : World) : (Instr.makeFunc fn first cap).run Tryd.prog w = .ok (.func fn first cap) w := rfl
theorem isnum_c (r : MRow) (n : Int) (b : Nat) (w : World) (hc : w.cell? ⟨b, 0, none⟩ = some (.int .i64 n)) : Calls Tryd.prog 78 #[.agg #[.int .i64 r.num, .string ⟨r.name.toArray⟩, .int .u32 r.kept, .int .u32 r.fixed], .pointer (some ⟨b, 0, none⟩)] w fun e w' => e = .returned (.bool (r.num == n)) ∧ Below w.heap.size w w' := by
  have hlt := World.block_lt_of_cell? w ⟨b, 0, none⟩ hc
  have hne : ¬ b = w.heap.size := by simp at hlt; omega
  go_enter Tryd.func78, Tryd.ntmps78
  go_wp2
  go_ret
  exact ⟨rfl, bal (Below.refl _ _) _⟩
/-- A call of a function that has a body is entered. -/
theorem enters {P : Program} {f : FuncId} {fn : Func} (hf : P.funcs[f]? = some fn) (hname : (fn.name == "runtime.NumGoroutine") = false) (hb : fn.body.isSome = true) (args : Array Value) (w : World) : (callFunc f args).run P w = .ok (.enter f args) w := by
  have h1 : fn.name ≠ "runtime.NumGoroutine" := by simpa using hname
  obtain ⟨c, hc⟩ := Option.isSome_iff_exists.1 hb
  simp [callFunc, hf, h1, hc]
def sB (a b : ByteArray) : Bool := a.toList == b.toList
/-- The first row with a property: its place; -1: there is none. -/
def NoRow (p : MRow → Bool) (k : Nat) : Prop := ∀ j, j < k → p (rowAt j) = false
def FirstRow (p : MRow → Bool) (v : Int) : Prop := (∃ k : Nat, k < 23 ∧ p (rowAt k) = true ∧ NoRow p k ∧ v = k) ∨ (NoRow p 23 ∧ v = -1)
theorem index_c (p : MRow → Bool) (f : Nat) (b : Nat) (W w : World) (hr : RowsIs W) (hb : Below W.heap.size W w) (hlt : b < w.heap.size) (hen : ∀ args w, (callFunc f args).run Tryd.prog w = .ok (.enter f args) w)
    (hf : ∀ (r : MRow) (v : World), Below w.heap.size w v → Calls Tryd.prog f #[.agg #[.int .i64 r.num, .string ⟨r.name.toArray⟩, .int .u32 r.kept, .int .u32 r.fixed], .pointer (some ⟨b, 0, none⟩)] v fun e w' => e = .returned (.bool (p r)) ∧ Below v.heap.size v w') :
    Calls Tryd.prog 90 #[.slice (some ⟨3, 0, none⟩) 23 23, .func (.func f) #[] #[.pointer (some ⟨b, 0, none⟩)]] w fun e w' => (∃ v, e = .returned (.int .i64 v) ∧ FirstRow p v) ∧ Below w.heap.size w w' := by
  have HR := Lib.hid hr
  have HF := Lib.hid hf
  clear hr hf
  go_enter Tryd.func90, Tryd.ntmps90
  go_wp2
  go_loopw [8] (fun i wr => ∃ k : Nat, k ≤ 23 ∧ i = .int .i64 k ∧ NoRow p k ∧ Below w.heap.size w wr) (fun i _ => 23 - (intOf i).toNat)
  case atStart => exact ⟨0, by omega, rfl, fun j h => by omega, Below.refl _ _⟩
  case round =>
    obtain ⟨k, hk, rfl, hn, hbr⟩ := hrel
    by_cases hlt : k < 23
    · have hr1 := (HR.out.below hb).below hbr
      have c0 := rows_cell hr1 k 0 hlt (by decide)
      have c1 := rows_cell hr1 k 1 hlt (by decide)
      have c2 := rows_cell hr1 k 2 hlt (by decide)
      have c3 := rows_cell hr1 k 3 hlt (by decide)
      simp only [MRow.cells, List.getElem?_cons_zero, List.getElem?_cons_succ] at c0 c1 c2 c3
      rw [show 4 * k + 0 = k * 4 by omega] at c0
      rw [show 4 * k + 1 = k * 4 + 1 by omega] at c1
      rw [show 4 * k + 2 = k * 4 + 2 by omega] at c2
      rw [show 4 * k + 3 = k * 4 + 3 by omega] at c3
      rcases Bool.eq_false_or_eq_true (p (rowAt k)) with hp | hp
      · go_wp2_with fail
        refine (HF.out (rowAt k) _ hbr).mono ?_
        rintro e w1 ⟨rfl, hb1⟩
        go_wp2
        go_ret
        exact ⟨⟨_, rfl, .inl ⟨k, hlt, hp, hn, rfl⟩⟩, bthen hbr hb1⟩
      · go_wp2_with fail
        refine (HF.out (rowAt k) _ hbr).mono ?_
        rintro e w1 ⟨rfl, hb1⟩
        go_wp2
        go_roundw
        case rel => exact ⟨k + 1, by omega, by go_num, fun j hj => by rcases Nat.lt_succ_iff_lt_or_eq.mp hj with h | h; exact hn j h; subst h; exact hp, bthen hbr hb1⟩
        case measure => simp [intOf]; omega
    · have hk8 : k = 23 := by omega
      subst hk8
      go_wp2
      go_ret
      exact ⟨⟨_, rfl, .inr ⟨hn, rfl⟩⟩, hbr⟩
def NumIs (n : Int) (v : Int) : Prop := FirstRow (fun r => r.num == n) v
theorem at_num_c (n : Int) (b : Nat) (w : World) (hr : RowsIs w) (hc : w.cell? ⟨b, 0, none⟩ = some (.int .i64 n)) : Calls Tryd.prog 77 #[.func (.func 78) #[] #[.pointer (some ⟨b, 0, none⟩)]] w fun e w' => (∃ v, e = .returned (.int .i64 v) ∧ FirstRow (fun r => r.num == n) v) ∧ Below w.heap.size w w' := by
  have hlt : b < w.heap.size := World.block_lt_of_cell? w ⟨b, 0, none⟩ hc
  have key := index_c (fun r => r.num == n) 78 b w w hr (Below.refl _ _) hlt (enters Tryd.func78 (by kernel_rfl) (by kernel_rfl)) (fun r v hv => isnum_c r n b v ((hv.cell (p := ⟨b, 0, none⟩) hlt).trans hc))
  have Key := Lib.hid key
  clear key hr hc
  go_enter Tryd.func77, Tryd.ntmps77
  go_wp2_with fail
  refine Key.out.mono ?_
  rintro e w1 ⟨⟨v, rfl, hv⟩, hb1⟩
  have Hv := Lib.hid hv
  clear hv
  go_wp2
  go_ret
  exact ⟨⟨_, rfl, Hv.out⟩, hb1⟩
end Go.Proofs.YtnooikjkjcflbabDoor
