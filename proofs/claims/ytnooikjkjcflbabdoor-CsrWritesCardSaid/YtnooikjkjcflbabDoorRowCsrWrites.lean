/- Proved: the given statement of the law CsrWrites, its card tied to the program's text: for every input the call returns true, and each argument reads as before. Conditions: none beyond the statement's own. -/
import Derived.Test.YtnooikjkjcflbabDoorRows
import Derived.Test.YtnooikjkjcflbabDoorTie
import Derived.Test.YtnooikjkjcflbabDoorCards
import Derived.Test.YtnooikjkjcflbabDoorCz
import Derived.WalkKit
import Derived.ProofKit
import Derived.OpenShut
import Derived.Carry
import Derived.LaidMore
import Derived.Stop.Joined
import Derived.SevenTiedAt
import Derived.MakeChecks
namespace Go.Proofs.YtnooikjkjcflbabDoor.csrWrites
open Go.ChangeShapes Go.WideShapes Go.ChangeAt Go.RowKit
open Go.ChangeMaps (open_string)
set_option linter.unusedVariables false
set_option linter.unusedSimpArgs false
set_option maxRecDepth 100000
theorem own : ownKnob Tryd.prog.godebug = none := by kernel_rfl
theorem laidOut : laidOutB Tryd.prog = true := by kernel_rfl
theorem bd_i64 {x : Int} (h : (Lit.int .i64 x).wf = true) : -9223372036854775808 ≤ x ∧ x ≤ 9223372036854775807 := by
  have h0 : IntKind.i64.min = -9223372036854775808 := rfl
  have h1 : IntKind.i64.max = 9223372036854775807 := rfl
  simp only [Lit.wf, Bool.and_eq_true, decide_eq_true_eq] at h
  omega
theorem bd_u32 {x : Int} (h : (Lit.int .u32 x).wf = true) : 0 ≤ x ∧ x ≤ 4294967295 := by
  have h0 : IntKind.u32.min = 0 := rfl
  have h1 : IntKind.u32.max = 4294967295 := rfl
  simp only [Lit.wf, Bool.and_eq_true, decide_eq_true_eq] at h
  omega
theorem bd_u64 {x : Int} (h : (Lit.int .u64 x).wf = true) : 0 ≤ x ∧ x ≤ 18446744073709551615 := by
  have h0 : IntKind.u64.min = 0 := rfl
  have h1 : IntKind.u64.max = 18446744073709551615 := rfl
  simp only [Lit.wf, Bool.and_eq_true, decide_eq_true_eq] at h
  omega
section
variable {H : Type}
theorem cells44 {enc : TypeId × Value → H} {w : World} {base : Nat} {sp : Nat → Bool} {held : Bool} {m : Nat} {cs : List Value} {x : DataW H × List MemPlace} (h : DataW.trod enc Tryd.prog w base sp held m 44 cs = some x) :
    ∃ (a0 : Int) (a1 : Int) (a2 : Int) (a3 : Int) (a4 : Int) (a5 : Int) (a6 : Int), cs = [Value.int .u32 a0, Value.int .u32 a1, Value.int .u32 a2, Value.int .u32 a3, Value.int .u32 a4, Value.int .u32 a5, Value.int .u32 a6] ∧ (0 ≤ a0 ∧ a0 ≤ 4294967295) ∧ (0 ≤ a1 ∧ a1 ≤ 4294967295) ∧ (0 ≤ a2 ∧ a2 ≤ 4294967295) ∧ (0 ≤ a3 ∧ a3 ≤ 4294967295) ∧ (0 ≤ a4 ∧ a4 ≤ 4294967295) ∧ (0 ≤ a5 ∧ a5 ≤ 4294967295) ∧ (0 ≤ a6 ∧ a6 ≤ 4294967295) := by
  obtain ⟨xs, m', -, -, hn, hl, hx⟩ := DataW.trod_struct Tryd.underlying44 h
  rw [show Tryd.prog.cellsOf 44 = 7 from by kernel_rfl] at hn
  match cs, hn with
  | [c0, c1, c2, c3, c4, c5, c6], _ =>
  match xs, hl with
  | [y0, y1, y2, y3, y4, y5, y6], _ =>
  have e0 : DataW.trod enc Tryd.prog w base sp held m' 22 [c0] = some y0 := by have := hx 0 _ rfl; simpa [show Tryd.prog.cellsOf 22 = 1 from by kernel_rfl] using this
  obtain ⟨z0, h0, _, w0⟩ := DataW.trod_int Tryd.underlying22 e0
  simp only [List.cons.injEq, and_true] at h0
  subst h0
  have w0 := bd_u32 w0
  have e1 : DataW.trod enc Tryd.prog w base sp held m' 22 [c1] = some y1 := by have := hx 1 _ rfl; simpa [show Tryd.prog.cellsOf 22 = 1 from by kernel_rfl] using this
  obtain ⟨z1, h1, _, w1⟩ := DataW.trod_int Tryd.underlying22 e1
  simp only [List.cons.injEq, and_true] at h1
  subst h1
  have w1 := bd_u32 w1
  have e2 : DataW.trod enc Tryd.prog w base sp held m' 22 [c2] = some y2 := by have := hx 2 _ rfl; simpa [show Tryd.prog.cellsOf 22 = 1 from by kernel_rfl] using this
  obtain ⟨z2, h2, _, w2⟩ := DataW.trod_int Tryd.underlying22 e2
  simp only [List.cons.injEq, and_true] at h2
  subst h2
  have w2 := bd_u32 w2
  have e3 : DataW.trod enc Tryd.prog w base sp held m' 22 [c3] = some y3 := by have := hx 3 _ rfl; simpa [show Tryd.prog.cellsOf 22 = 1 from by kernel_rfl] using this
  obtain ⟨z3, h3, _, w3⟩ := DataW.trod_int Tryd.underlying22 e3
  simp only [List.cons.injEq, and_true] at h3
  subst h3
  have w3 := bd_u32 w3
  have e4 : DataW.trod enc Tryd.prog w base sp held m' 22 [c4] = some y4 := by have := hx 4 _ rfl; simpa [show Tryd.prog.cellsOf 22 = 1 from by kernel_rfl] using this
  obtain ⟨z4, h4, _, w4⟩ := DataW.trod_int Tryd.underlying22 e4
  simp only [List.cons.injEq, and_true] at h4
  subst h4
  have w4 := bd_u32 w4
  have e5 : DataW.trod enc Tryd.prog w base sp held m' 22 [c5] = some y5 := by have := hx 5 _ rfl; simpa [show Tryd.prog.cellsOf 22 = 1 from by kernel_rfl] using this
  obtain ⟨z5, h5, _, w5⟩ := DataW.trod_int Tryd.underlying22 e5
  simp only [List.cons.injEq, and_true] at h5
  subst h5
  have w5 := bd_u32 w5
  have e6 : DataW.trod enc Tryd.prog w base sp held m' 22 [c6] = some y6 := by have := hx 6 _ rfl; simpa [show Tryd.prog.cellsOf 22 = 1 from by kernel_rfl] using this
  obtain ⟨z6, h6, _, w6⟩ := DataW.trod_int Tryd.underlying22 e6
  simp only [List.cons.injEq, and_true] at h6
  subst h6
  have w6 := bd_u32 w6
  exact ⟨z0, z1, z2, z3, z4, z5, z6, rfl, w0, w1, w2, w3, w4, w5, w6⟩
theorem cells47 {enc : TypeId × Value → H} {w : World} {base : Nat} {sp : Nat → Bool} {held : Bool} {m : Nat} {cs : List Value} {x : DataW H × List MemPlace} (h : DataW.trod enc Tryd.prog w base sp held m 47 cs = some x) :
    ∃ (a0 : Int) (a1 : Int) (a2 : Int) (a3 : Int) (a4 : Int) (a5 : Int) (a6 : Int) (a7 : Int) (a8 : Int), cs = [Value.int .u32 a0, Value.int .u32 a1, Value.int .u32 a2, Value.int .u32 a3, Value.int .u32 a4, Value.int .u32 a5, Value.int .u32 a6, Value.int .u64 a7, Value.int .u64 a8] ∧ (0 ≤ a0 ∧ a0 ≤ 4294967295) ∧ (0 ≤ a1 ∧ a1 ≤ 4294967295) ∧ (0 ≤ a2 ∧ a2 ≤ 4294967295) ∧ (0 ≤ a3 ∧ a3 ≤ 4294967295) ∧ (0 ≤ a4 ∧ a4 ≤ 4294967295) ∧ (0 ≤ a5 ∧ a5 ≤ 4294967295) ∧ (0 ≤ a6 ∧ a6 ≤ 4294967295) ∧ (0 ≤ a7 ∧ a7 ≤ 18446744073709551615) ∧ (0 ≤ a8 ∧ a8 ≤ 18446744073709551615) := by
  obtain ⟨xs, m', -, -, hn, hl, hx⟩ := DataW.trod_struct Tryd.underlying47 h
  rw [show Tryd.prog.cellsOf 47 = 9 from by kernel_rfl] at hn
  match cs, hn with
  | [c0, c1, c2, c3, c4, c5, c6, c7, c8], _ =>
  match xs, hl with
  | [y0, y1, y2], _ =>
  have e0 : DataW.trod enc Tryd.prog w base sp held m' 44 [c0, c1, c2, c3, c4, c5, c6] = some y0 := by have := hx 0 _ rfl; simpa [show Tryd.prog.cellsOf 44 = 7 from by kernel_rfl] using this
  obtain ⟨z0, z1, z2, z3, z4, z5, z6, h0, w0, w1, w2, w3, w4, w5, w6⟩ := cells44 e0
  simp only [List.cons.injEq, and_true] at h0
  obtain ⟨rfl, rfl, rfl, rfl, rfl, rfl, rfl⟩ := h0
  have e1 : DataW.trod enc Tryd.prog w base sp held m' 45 [c7] = some y1 := by have := hx 1 _ rfl; simpa [show Tryd.prog.cellsOf 45 = 1 from by kernel_rfl] using this
  obtain ⟨z7, h1, _, w7⟩ := DataW.trod_int Tryd.underlying45 e1
  simp only [List.cons.injEq, and_true] at h1
  subst h1
  have w7 := bd_u64 w7
  have e2 : DataW.trod enc Tryd.prog w base sp held m' 45 [c8] = some y2 := by have := hx 2 _ rfl; simpa [show Tryd.prog.cellsOf 45 = 1 from by kernel_rfl] using this
  obtain ⟨z8, h2, _, w8⟩ := DataW.trod_int Tryd.underlying45 e2
  simp only [List.cons.injEq, and_true] at h2
  subst h2
  have w8 := bd_u64 w8
  exact ⟨z0, z1, z2, z3, z4, z5, z6, z7, z8, rfl, w0, w1, w2, w3, w4, w5, w6, w7, w8⟩
theorem open47 {enc : TypeId × Value → H} {w : World} {base : Nat} {sp : Nat → Bool} {held : Bool} {r : Reach} {b0 : Nat} {v : Value} {d : DataW H} {p : List MemPlace} (hv : Value.okWide Tryd.prog w r b0 47 v) (h : DataW.Trod enc Tryd.prog w base sp held 47 v d p) :
    ∃ (a0 : Int) (a1 : Int) (a2 : Int) (a3 : Int) (a4 : Int) (a5 : Int) (a6 : Int) (a7 : Int) (a8 : Int), v = Value.agg #[Value.int .u32 a0, Value.int .u32 a1, Value.int .u32 a2, Value.int .u32 a3, Value.int .u32 a4, Value.int .u32 a5, Value.int .u32 a6, Value.int .u64 a7, Value.int .u64 a8] ∧ (0 ≤ a0 ∧ a0 ≤ 4294967295) ∧ (0 ≤ a1 ∧ a1 ≤ 4294967295) ∧ (0 ≤ a2 ∧ a2 ≤ 4294967295) ∧ (0 ≤ a3 ∧ a3 ≤ 4294967295) ∧ (0 ≤ a4 ∧ a4 ≤ 4294967295) ∧ (0 ≤ a5 ∧ a5 ≤ 4294967295) ∧ (0 ≤ a6 ∧ a6 ≤ 4294967295) ∧ (0 ≤ a7 ∧ a7 ≤ 18446744073709551615) ∧ (0 ≤ a8 ∧ a8 ≤ 18446744073709551615) := by
  obtain ⟨cs, rfl, -⟩ := okWide_struct Tryd.underlying47 hv
  obtain ⟨l⟩ := cs
  obtain ⟨fuel, hf⟩ := h
  obtain ⟨a0, a1, a2, a3, a4, a5, a6, a7, a8, hc, hb⟩ := cells47 hf
  simp only [Value.cells] at hc
  subst hc
  exact ⟨a0, a1, a2, a3, a4, a5, a6, a7, a8, rfl, hb⟩
theorem cells49 {enc : TypeId × Value → H} {w : World} {base : Nat} {sp : Nat → Bool} {held : Bool} {m : Nat} {cs : List Value} {x : DataW H × List MemPlace} (h : DataW.trod enc Tryd.prog w base sp held m 49 cs = some x) :
    ∃ (a0 : Int) (a1 : Int), cs = [Value.int .i64 a0, Value.int .u32 a1] ∧ (-9223372036854775808 ≤ a0 ∧ a0 ≤ 9223372036854775807) ∧ (0 ≤ a1 ∧ a1 ≤ 4294967295) := by
  obtain ⟨xs, m', -, -, hn, hl, hx⟩ := DataW.trod_struct Tryd.underlying49 h
  rw [show Tryd.prog.cellsOf 49 = 2 from by kernel_rfl] at hn
  match cs, hn with
  | [c0, c1], _ =>
  match xs, hl with
  | [y0, y1], _ =>
  have e0 : DataW.trod enc Tryd.prog w base sp held m' 3 [c0] = some y0 := by have := hx 0 _ rfl; simpa [show Tryd.prog.cellsOf 3 = 1 from by kernel_rfl] using this
  obtain ⟨z0, h0, _, w0⟩ := DataW.trod_int Tryd.underlying3 e0
  simp only [List.cons.injEq, and_true] at h0
  subst h0
  have w0 := bd_i64 w0
  have e1 : DataW.trod enc Tryd.prog w base sp held m' 22 [c1] = some y1 := by have := hx 1 _ rfl; simpa [show Tryd.prog.cellsOf 22 = 1 from by kernel_rfl] using this
  obtain ⟨z1, h1, _, w1⟩ := DataW.trod_int Tryd.underlying22 e1
  simp only [List.cons.injEq, and_true] at h1
  subst h1
  have w1 := bd_u32 w1
  exact ⟨z0, z1, rfl, w0, w1⟩
theorem open49 {enc : TypeId × Value → H} {w : World} {base : Nat} {sp : Nat → Bool} {held : Bool} {r : Reach} {b0 : Nat} {v : Value} {d : DataW H} {p : List MemPlace} (hv : Value.okWide Tryd.prog w r b0 49 v) (h : DataW.Trod enc Tryd.prog w base sp held 49 v d p) :
    ∃ (a0 : Int) (a1 : Int), v = Value.agg #[Value.int .i64 a0, Value.int .u32 a1] ∧ (-9223372036854775808 ≤ a0 ∧ a0 ≤ 9223372036854775807) ∧ (0 ≤ a1 ∧ a1 ≤ 4294967295) := by
  obtain ⟨cs, rfl, -⟩ := okWide_struct Tryd.underlying49 hv
  obtain ⟨l⟩ := cs
  obtain ⟨fuel, hf⟩ := h
  obtain ⟨a0, a1, hc, hb⟩ := cells49 hf
  simp only [Value.cells] at hc
  subst hc
  exact ⟨a0, a1, rfl, hb⟩
theorem cells51 {enc : TypeId × Value → H} {w : World} {base : Nat} {sp : Nat → Bool} {held : Bool} {m : Nat} {cs : List Value} {x : DataW H × List MemPlace} (h : DataW.trod enc Tryd.prog w base sp held m 51 cs = some x) :
    ∃ (a0 : Int) (a1 : Int) (a2 : Int) (a3 : Int), cs = [Value.int .u64 a0, Value.int .u64 a1, Value.int .u64 a2, Value.int .u32 a3] ∧ (0 ≤ a0 ∧ a0 ≤ 18446744073709551615) ∧ (0 ≤ a1 ∧ a1 ≤ 18446744073709551615) ∧ (0 ≤ a2 ∧ a2 ≤ 18446744073709551615) ∧ (0 ≤ a3 ∧ a3 ≤ 4294967295) := by
  obtain ⟨xs, m', -, -, hn, hl, hx⟩ := DataW.trod_struct Tryd.underlying51 h
  rw [show Tryd.prog.cellsOf 51 = 4 from by kernel_rfl] at hn
  match cs, hn with
  | [c0, c1, c2, c3], _ =>
  match xs, hl with
  | [y0, y1, y2, y3], _ =>
  have e0 : DataW.trod enc Tryd.prog w base sp held m' 45 [c0] = some y0 := by have := hx 0 _ rfl; simpa [show Tryd.prog.cellsOf 45 = 1 from by kernel_rfl] using this
  obtain ⟨z0, h0, _, w0⟩ := DataW.trod_int Tryd.underlying45 e0
  simp only [List.cons.injEq, and_true] at h0
  subst h0
  have w0 := bd_u64 w0
  have e1 : DataW.trod enc Tryd.prog w base sp held m' 45 [c1] = some y1 := by have := hx 1 _ rfl; simpa [show Tryd.prog.cellsOf 45 = 1 from by kernel_rfl] using this
  obtain ⟨z1, h1, _, w1⟩ := DataW.trod_int Tryd.underlying45 e1
  simp only [List.cons.injEq, and_true] at h1
  subst h1
  have w1 := bd_u64 w1
  have e2 : DataW.trod enc Tryd.prog w base sp held m' 45 [c2] = some y2 := by have := hx 2 _ rfl; simpa [show Tryd.prog.cellsOf 45 = 1 from by kernel_rfl] using this
  obtain ⟨z2, h2, _, w2⟩ := DataW.trod_int Tryd.underlying45 e2
  simp only [List.cons.injEq, and_true] at h2
  subst h2
  have w2 := bd_u64 w2
  have e3 : DataW.trod enc Tryd.prog w base sp held m' 22 [c3] = some y3 := by have := hx 3 _ rfl; simpa [show Tryd.prog.cellsOf 22 = 1 from by kernel_rfl] using this
  obtain ⟨z3, h3, _, w3⟩ := DataW.trod_int Tryd.underlying22 e3
  simp only [List.cons.injEq, and_true] at h3
  subst h3
  have w3 := bd_u32 w3
  exact ⟨z0, z1, z2, z3, rfl, w0, w1, w2, w3⟩
theorem open51 {enc : TypeId × Value → H} {w : World} {base : Nat} {sp : Nat → Bool} {held : Bool} {r : Reach} {b0 : Nat} {v : Value} {d : DataW H} {p : List MemPlace} (hv : Value.okWide Tryd.prog w r b0 51 v) (h : DataW.Trod enc Tryd.prog w base sp held 51 v d p) :
    ∃ (a0 : Int) (a1 : Int) (a2 : Int) (a3 : Int), v = Value.agg #[Value.int .u64 a0, Value.int .u64 a1, Value.int .u64 a2, Value.int .u32 a3] ∧ (0 ≤ a0 ∧ a0 ≤ 18446744073709551615) ∧ (0 ≤ a1 ∧ a1 ≤ 18446744073709551615) ∧ (0 ≤ a2 ∧ a2 ≤ 18446744073709551615) ∧ (0 ≤ a3 ∧ a3 ≤ 4294967295) := by
  obtain ⟨cs, rfl, -⟩ := okWide_struct Tryd.underlying51 hv
  obtain ⟨l⟩ := cs
  obtain ⟨fuel, hf⟩ := h
  obtain ⟨a0, a1, a2, a3, hc, hb⟩ := cells51 hf
  simp only [Value.cells] at hc
  subst hc
  exact ⟨a0, a1, a2, a3, rfl, hb⟩
end
def laidOf : List (String × DataW Unit) := [("mimesis/mask.rows", Rows.laid_mimesis_mask_rows)]
theorem door_met (os : Os) (args : Array Value) : laidMetH Tryd.prog laidOf ((World.doorLaid Tryd.prog 400 os).forCall (fun _ _ => 0) ⟨#[], args, []⟩).memory :=
  laidMetH_of_parts3 (fuel := 8) (laidMet_of_run' 8 (by kernel_rfl) (by kernel_rfl)) (by kernel_rfl) (by kernel_rfl)
theorem of_laid {W : World} (h : laidMetH Tryd.prog laidOf W) : RowsIs W := by
  rw [MakeChecks.laidMetH_plain _ _ _ (by kernel_rfl)] at h
  obtain ⟨ps, ⟨g0, t0, cs0, f0, p0, q0, hg0, ht0, hv0, hd0, _, _⟩, _, _⟩ := h
  obtain rfl := Option.some.inj (gRows.symm.trans hg0)
  obtain rfl := Option.some.inj (tRows.symm.trans ht0)
  exact rows_laid hv0 hd0
set_option maxRecDepth 100000 in
theorem lifted (os : Os) (started : os.Started) (H : Type) (enc : TypeId × Value → H) :
    ReturnsInHanded {} Tryd.checked os 6 .any (fun w args => (Rows.csrWritesSpec.pre enc Tryd.prog Tryd.f6 [] false w args ∧ laidMetH Tryd.prog laidOf w) ∧ sizedMet enc Tryd.prog Tryd.f6 (OpenSpec.ofChange Rows.csrWritesSpec) false w args)
      (Rows.csrWritesSpec.post enc Tryd.prog Tryd.f6 false true false false) := by
  refine returnsInHanded_of_change_and (C := Tryd.checked) (X := fun w _ => laidMetH Tryd.prog laidOf w) (fun _ _ _ hh h => h.of_heap hh) own started (by kernel_rfl) Tryd.func6
    (ChangeSpec.witness_shaped (enc := enc) (C := Tryd.checked) (os := os) (X := fun w _ => laidMetH Tryd.prog laidOf w) false (World.doorLaid Tryd.prog 400 os) #[.agg #[.int .u32 0, .int .u32 0, .int .u32 0, .int .u32 0, .int .u32 0, .int .u32 0, .int .u32 0, .int .u64 0, .int .u64 0], .agg #[.int .i64 0, .int .u32 0], .agg #[.int .u64 0, .int .u64 0, .int .u64 0, .int .u32 0]] 8 rfl (World.shaped_of_RefB (by kernel_rfl) (by kernel_rfl)) (by kernel_rfl) (by kernel_rfl) (by kernel_rfl) (door_met os _)) ?_
  intro W base args ds gs before hval0 hW _ _ hL _
  have hval : ∀ (j : Nat) t v, Tryd.f6.params[j]? = some t → args[j]? = some v → Value.okWide Tryd.prog W .any base t v := hval0
  have hW' := hW
  obtain ⟨p, q, hA0, hV, rfl, hfz, hnd⟩ := hW
  have hA : DataW.TrodAll enc Tryd.prog W 0 (fun _ => true) true Tryd.f6.params.toList args.toList ds p := hA0
  rw [Tryd.params6] at hA hval
  obtain ⟨v0, vs0, d0, ds0, p0, q0, hargs, rfl, rfl, h0, r0⟩ := trodAll_cons hA
  obtain ⟨v1, vs1, d1, ds1, p1, q1, rfl, rfl, rfl, h1, r1⟩ := trodAll_cons r0
  obtain ⟨v2, vs2, d2, ds2, p2, q2, rfl, rfl, rfl, h2, r2⟩ := trodAll_cons r1
  obtain ⟨rfl, rfl, rfl⟩ := trodAll_nil r2
  obtain rfl : args = #[v0, v1, v2] := by cases args; simp_all
  obtain ⟨rfl, rfl⟩ := trodVars_none hV
  have k0 := h0
  have lt0 : ∀ x ∈ p0, x.block < W.heap.size := by obtain ⟨m, hm⟩ := k0; exact DataW.trod_lt m _ _ _ hm
  have k1 := h1
  have lt1 : ∀ x ∈ p1, x.block < W.heap.size := by obtain ⟨m, hm⟩ := k1; exact DataW.trod_lt m _ _ _ hm
  have k2 := h2
  have lt2 : ∀ x ∈ p2, x.block < W.heap.size := by obtain ⟨m, hm⟩ := k2; exact DataW.trod_lt m _ _ _ hm
  obtain ⟨a0_0, a0_1, a0_2, a0_3, a0_4, a0_5, a0_6, a0_7, a0_8, rfl, b0⟩ := open47 (hval 0 47 v0 rfl rfl) h0
  obtain ⟨a1_0, a1_1, rfl, b1⟩ := open49 (hval 1 49 v1 rfl rfl) h1
  obtain ⟨a2_0, a2_1, a2_2, a2_3, rfl, b2⟩ := open51 (hval 2 51 v2 rfl rfl) h2
  clear hA0 hval0
  obtain hRows := of_laid hL
  refine (cwrites_w a1_0 a1_1 a0_0 a0_1 a0_2 a0_3 a0_4 a0_5 a0_6 a0_7 a0_8 a2_0 a2_1 a2_2 a2_3 b1.2 W hRows).mono fun e W' ⟨he, bel⟩ => ?_
  subst he
  exact ⟨_, rfl, _, _, _, [], _, [], hW', trodAll_mk1 (shut_bool Tryd.underlying4 _), (trodAll_cons_mk (Below.trod laidOut (by kernel_rfl) (of_decide_eq_true (by kernel_rfl)) k0 bel lt0) (trodAll_cons_mk (Below.trod laidOut (by kernel_rfl) (of_decide_eq_true (by kernel_rfl)) k1 bel lt1) (trodAll_cons_mk (Below.trod laidOut (by kernel_rfl) (of_decide_eq_true (by kernel_rfl)) k2 bel lt2) trodAll_mk0))), rfl, bel.frame _, fun h => by cases h⟩
theorem over : Rows.csrWritesRow.holds Tryd.pinned (OpenSpec.ofChange Rows.csrWritesSpec) :=
  OpenClaim.holds_of_wide 6 Tryd.f6 rfl rfl rfl rfl rfl rfl rfl ⟨rfl, rfl, rfl, rfl, rfl⟩ rfl rfl rfl rfl rfl (by kernel_rfl) Tryd.func6 (by kernel_rfl)
    (of_decide_eq_true (by kernel_rfl)) (by unfold Func.isWrapper; first | (rw [if_pos (by decide +kernel)]; kernel_rfl) | (rw [if_neg (by decide +kernel)]; exact ⟨rfl, rfl⟩))
    (fun os started H enc _ => lifted os started H enc)
theorem proved : Rows.CsrWritesCardSaid :=
  Claim7.holds_tied_plain_at .later [] [.widerDeep] true (true, "76cd4afb0598695b462ac856210ea3e9ca07956922bb07bca8039f0d820cd3ce") false
    over (fun _ h => by cases h) (by kernel_rfl) (fun _ h => by cases h) csrWrites_row_tie rfl ⟨rfl, rfl⟩ (by kernel_rfl) rfl
    (fun f fn hf hfn => by
      obtain rfl : f = 6 := Option.some.inj ((show Tryd.prog.funcNamed "mimesis/mimesislaw16.CsrWrites" = some 6 by kernel_rfl).symm.trans hf) |>.symm
      obtain rfl : fn = Tryd.f6 := (Option.some.inj (Tryd.func6.symm.trans hfn)).symm
      exact ⟨by kernel_rfl, fun j t ht => by
        rw [Tryd.params6] at ht
        have hm : t ∈ [47, 49, 51] := by have := Array.mem_of_getElem? ht; simp at this ⊢; first | omega | (repeat' first | (subst this; first | exact rfl | exact Or.inl rfl | exact Or.inr rfl | exact Or.inr (Or.inl rfl) | exact Or.inr (Or.inr rfl)) | (rcases this with this | this))
        have hall : ([47, 49, 51].all fun u => !Tryd.prog.wantsStandIn u) = true := by kernel_rfl
        exact (show Tryd.prog.wantsStandIn t = false by simpa using List.all_eq_true.1 hall t hm)⟩)
    (by kernel_rfl)
#print axioms proved
end Go.Proofs.YtnooikjkjcflbabDoor.csrWrites
