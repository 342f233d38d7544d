/- Proved: the given statement of the law IrUses, its card tied to the program's text: for every input the call returns true, and each argument reads as before. Conditions: none beyond the statement's own. -/
import Derived.Test.YtlnbghhhifnbdaaDoorRows
import Derived.Test.YtlnbghhhifnbdaaDoorTie
import Derived.Test.YtlnbghhhifnbdaaDoorCards
import Derived.Test.YtlnbghhhifnbdaaDoorZJz
import Derived.WalkKit
import Derived.ProofKit
import Derived.OpenShut
import Derived.Carry
import Derived.LaidMore
import Derived.Stop.Joined
import Derived.SevenTiedAt
import Derived.MakeChecks
namespace Go.Proofs.YtlnbghhhifnbdaaDoor.irUses
open Go.ChangeShapes Go.WideShapes Go.ChangeAt Go.RowKit
open Go.ChangeMaps (open_string)
set_option linter.unusedVariables false
set_option linter.unusedSimpArgs false
set_option maxRecDepth 100000
theorem own : ownKnob Tryd.prog.godebug = none := by kernel_rfl
theorem laidOut : laidOutB Tryd.prog = true := by kernel_rfl
theorem bd_i64 {x : Int} (h : (Lit.int .i64 x).wf = true) : -9223372036854775808 ≤ x ∧ x ≤ 9223372036854775807 := by
  have h0 : IntKind.i64.min = -9223372036854775808 := rfl
  have h1 : IntKind.i64.max = 9223372036854775807 := rfl
  simp only [Lit.wf, Bool.and_eq_true, decide_eq_true_eq] at h
  omega
theorem bd_u32 {x : Int} (h : (Lit.int .u32 x).wf = true) : 0 ≤ x ∧ x ≤ 4294967295 := by
  have h0 : IntKind.u32.min = 0 := rfl
  have h1 : IntKind.u32.max = 4294967295 := rfl
  simp only [Lit.wf, Bool.and_eq_true, decide_eq_true_eq] at h
  omega
section
variable {H : Type}
theorem cells38 {enc : TypeId × Value → H} {w : World} {base : Nat} {sp : Nat → Bool} {held : Bool} {m : Nat} {cs : List Value} {x : DataW H × List MemPlace} (h : DataW.trod enc Tryd.prog w base sp held m 38 cs = some x) :
    ∃ (a0 : Int) (a1 : Int) (a2 : Int) (a3 : Int) (a4 : Int) (a5 : Int), cs = [Value.int .i64 a0, Value.int .i64 a1, Value.int .i64 a2, Value.int .u32 a3, Value.int .i64 a4, Value.int .i64 a5] ∧ (-9223372036854775808 ≤ a0 ∧ a0 ≤ 9223372036854775807) ∧ (-9223372036854775808 ≤ a1 ∧ a1 ≤ 9223372036854775807) ∧ (-9223372036854775808 ≤ a2 ∧ a2 ≤ 9223372036854775807) ∧ (0 ≤ a3 ∧ a3 ≤ 4294967295) ∧ (-9223372036854775808 ≤ a4 ∧ a4 ≤ 9223372036854775807) ∧ (-9223372036854775808 ≤ a5 ∧ a5 ≤ 9223372036854775807) := by
  obtain ⟨xs, m', -, -, hn, hl, hx⟩ := DataW.trod_struct Tryd.underlying38 h
  rw [show Tryd.prog.cellsOf 38 = 6 from by kernel_rfl] at hn
  match cs, hn with
  | [c0, c1, c2, c3, c4, c5], _ =>
  match xs, hl with
  | [y0, y1, y2, y3, y4, y5], _ =>
  have e0 : DataW.trod enc Tryd.prog w base sp held m' 3 [c0] = some y0 := by have := hx 0 _ rfl; simpa [show Tryd.prog.cellsOf 3 = 1 from by kernel_rfl] using this
  obtain ⟨z0, h0, _, w0⟩ := DataW.trod_int Tryd.underlying3 e0
  simp only [List.cons.injEq, and_true] at h0
  subst h0
  have w0 := bd_i64 w0
  have e1 : DataW.trod enc Tryd.prog w base sp held m' 3 [c1] = some y1 := by have := hx 1 _ rfl; simpa [show Tryd.prog.cellsOf 3 = 1 from by kernel_rfl] using this
  obtain ⟨z1, h1, _, w1⟩ := DataW.trod_int Tryd.underlying3 e1
  simp only [List.cons.injEq, and_true] at h1
  subst h1
  have w1 := bd_i64 w1
  have e2 : DataW.trod enc Tryd.prog w base sp held m' 3 [c2] = some y2 := by have := hx 2 _ rfl; simpa [show Tryd.prog.cellsOf 3 = 1 from by kernel_rfl] using this
  obtain ⟨z2, h2, _, w2⟩ := DataW.trod_int Tryd.underlying3 e2
  simp only [List.cons.injEq, and_true] at h2
  subst h2
  have w2 := bd_i64 w2
  have e3 : DataW.trod enc Tryd.prog w base sp held m' 36 [c3] = some y3 := by have := hx 3 _ rfl; simpa [show Tryd.prog.cellsOf 36 = 1 from by kernel_rfl] using this
  obtain ⟨z3, h3, _, w3⟩ := DataW.trod_int Tryd.underlying36 e3
  simp only [List.cons.injEq, and_true] at h3
  subst h3
  have w3 := bd_u32 w3
  have e4 : DataW.trod enc Tryd.prog w base sp held m' 3 [c4] = some y4 := by have := hx 4 _ rfl; simpa [show Tryd.prog.cellsOf 3 = 1 from by kernel_rfl] using this
  obtain ⟨z4, h4, _, w4⟩ := DataW.trod_int Tryd.underlying3 e4
  simp only [List.cons.injEq, and_true] at h4
  subst h4
  have w4 := bd_i64 w4
  have e5 : DataW.trod enc Tryd.prog w base sp held m' 3 [c5] = some y5 := by have := hx 5 _ rfl; simpa [show Tryd.prog.cellsOf 3 = 1 from by kernel_rfl] using this
  obtain ⟨z5, h5, _, w5⟩ := DataW.trod_int Tryd.underlying3 e5
  simp only [List.cons.injEq, and_true] at h5
  subst h5
  have w5 := bd_i64 w5
  exact ⟨z0, z1, z2, z3, z4, z5, rfl, w0, w1, w2, w3, w4, w5⟩
theorem open38 {enc : TypeId × Value → H} {w : World} {base : Nat} {sp : Nat → Bool} {held : Bool} {r : Reach} {b0 : Nat} {v : Value} {d : DataW H} {p : List MemPlace} (hv : Value.okWide Tryd.prog w r b0 38 v) (h : DataW.Trod enc Tryd.prog w base sp held 38 v d p) :
    ∃ (a0 : Int) (a1 : Int) (a2 : Int) (a3 : Int) (a4 : Int) (a5 : Int), v = Value.agg #[Value.int .i64 a0, Value.int .i64 a1, Value.int .i64 a2, Value.int .u32 a3, Value.int .i64 a4, Value.int .i64 a5] ∧ (-9223372036854775808 ≤ a0 ∧ a0 ≤ 9223372036854775807) ∧ (-9223372036854775808 ≤ a1 ∧ a1 ≤ 9223372036854775807) ∧ (-9223372036854775808 ≤ a2 ∧ a2 ≤ 9223372036854775807) ∧ (0 ≤ a3 ∧ a3 ≤ 4294967295) ∧ (-9223372036854775808 ≤ a4 ∧ a4 ≤ 9223372036854775807) ∧ (-9223372036854775808 ≤ a5 ∧ a5 ≤ 9223372036854775807) := by
  obtain ⟨cs, rfl, -⟩ := okWide_struct Tryd.underlying38 hv
  obtain ⟨l⟩ := cs
  obtain ⟨fuel, hf⟩ := h
  obtain ⟨a0, a1, a2, a3, a4, a5, hc, hb⟩ := cells38 hf
  simp only [Value.cells] at hc
  subst hc
  exact ⟨a0, a1, a2, a3, a4, a5, rfl, hb⟩
end
def laidOf : List (String × DataW Unit) := [("mimesis/inst.names", Rows.laid_mimesis_inst_names)]
theorem door_met (os : Os) (args : Array Value) : laidMetH Tryd.prog laidOf ((World.doorLaid Tryd.prog 400 os).forCall (fun _ _ => 0) ⟨#[], args, []⟩).memory :=
  laidMetH_of_parts3 (fuel := 8) (laidMet_of_run' 8 (by kernel_rfl) (by kernel_rfl)) (by kernel_rfl) (by kernel_rfl)
theorem of_laid {W : World} (h : laidMetH Tryd.prog laidOf W) : NamesIs W := by
  rw [MakeChecks.laidMetH_plain _ _ _ (by kernel_rfl)] at h
  obtain ⟨ps, ⟨g0, t0, cs0, f0, p0, q0, hg0, ht0, hv0, hd0, _, _⟩, _, _⟩ := h
  obtain rfl := Option.some.inj (gNames.symm.trans hg0)
  obtain rfl := Option.some.inj (tNames.symm.trans ht0)
  exact names_laid hv0 hd0
set_option maxRecDepth 100000 in
theorem lifted (os : Os) (started : os.Started) (H : Type) (enc : TypeId × Value → H) :
    ReturnsInHanded {} Tryd.checked os 5 .any (fun w args => (Rows.irUsesSpec.pre enc Tryd.prog Tryd.f5 [] false w args ∧ laidMetH Tryd.prog laidOf w) ∧ sizedMet enc Tryd.prog Tryd.f5 (OpenSpec.ofChange Rows.irUsesSpec) false w args)
      (Rows.irUsesSpec.post enc Tryd.prog Tryd.f5 false true false false) := by
  refine returnsInHanded_of_change_and (C := Tryd.checked) (X := fun w _ => laidMetH Tryd.prog laidOf w) (fun _ _ _ hh h => h.of_heap hh) own started (by kernel_rfl) Tryd.func5
    (ChangeSpec.witness_shaped (enc := enc) (C := Tryd.checked) (os := os) (X := fun w _ => laidMetH Tryd.prog laidOf w) false (World.doorLaid Tryd.prog 400 os) #[.agg #[.int .i64 0, .int .i64 0, .int .i64 0, .int .u32 0, .int .i64 0, .int .i64 0], .int .i64 0] 8 rfl (World.shaped_of_RefB (by kernel_rfl) (by kernel_rfl)) (by kernel_rfl) (by kernel_rfl) (by kernel_rfl) (door_met os _)) ?_
  intro W base args ds gs before hval0 hW _ _ hL _
  have hval : ∀ (j : Nat) t v, Tryd.f5.params[j]? = some t → args[j]? = some v → Value.okWide Tryd.prog W .any base t v := hval0
  have hW' := hW
  obtain ⟨p, q, hA0, hV, rfl, hfz, hnd⟩ := hW
  have hA : DataW.TrodAll enc Tryd.prog W 0 (fun _ => true) true Tryd.f5.params.toList args.toList ds p := hA0
  rw [Tryd.params5] at hA hval
  obtain ⟨v0, vs0, d0, ds0, p0, q0, hargs, rfl, rfl, h0, r0⟩ := trodAll_cons hA
  obtain ⟨v1, vs1, d1, ds1, p1, q1, rfl, rfl, rfl, h1, r1⟩ := trodAll_cons r0
  obtain ⟨rfl, rfl, rfl⟩ := trodAll_nil r1
  obtain rfl : args = #[v0, v1] := by cases args; simp_all
  obtain ⟨rfl, rfl⟩ := trodVars_none hV
  have k0 := h0
  have lt0 : ∀ x ∈ p0, x.block < W.heap.size := by obtain ⟨m, hm⟩ := k0; exact DataW.trod_lt m _ _ _ hm
  have k1 := h1
  have lt1 : ∀ x ∈ p1, x.block < W.heap.size := by obtain ⟨m, hm⟩ := k1; exact DataW.trod_lt m _ _ _ hm
  obtain ⟨a0_0, a0_1, a0_2, a0_3, a0_4, a0_5, rfl, b0⟩ := open38 (hval 0 38 v0 rfl rfl) h0
  obtain ⟨a1, rfl, _, _, w1⟩ := open_int Tryd.underlying3 (hval 1 3 v1 rfl rfl) h1
  have b1 := bd_i64 w1
  clear hA0 hval0
  obtain hNames := of_laid hL
  refine (iruses_c a0_0 a0_1 a0_2 a0_3 a0_4 a0_5 a1 W hNames).mono fun e W' ⟨he, bel⟩ => ?_
  subst he
  exact ⟨_, rfl, _, _, _, [], _, [], hW', trodAll_mk1 (shut_bool Tryd.underlying4 _), (trodAll_cons_mk (Below.trod laidOut (by kernel_rfl) (of_decide_eq_true (by kernel_rfl)) k0 bel lt0) (trodAll_cons_mk (Below.trod laidOut (by kernel_rfl) (of_decide_eq_true (by kernel_rfl)) k1 bel lt1) trodAll_mk0)), rfl, bel.frame _, fun h => by cases h⟩
theorem over : Rows.irUsesRow.holds Tryd.pinned (OpenSpec.ofChange Rows.irUsesSpec) :=
  OpenClaim.holds_of_wide 5 Tryd.f5 rfl rfl rfl rfl rfl rfl rfl ⟨rfl, rfl, rfl, rfl, rfl⟩ rfl rfl rfl rfl rfl (by kernel_rfl) Tryd.func5 (by kernel_rfl)
    (of_decide_eq_true (by kernel_rfl)) (by unfold Func.isWrapper; first | (rw [if_pos (by decide +kernel)]; kernel_rfl) | (rw [if_neg (by decide +kernel)]; exact ⟨rfl, rfl⟩))
    (fun os started H enc _ => lifted os started H enc)
theorem proved : Rows.IrUsesCardSaid :=
  Claim7.holds_tied_plain_at .later [] [.data] true (true, "afdf8d2276a76764a2c32c142a6a9d636ec0da01e506cca59c2ce3668c9605c4") false
    over (fun _ h => by cases h) (by kernel_rfl) (fun _ h => by cases h) irUses_row_tie rfl ⟨rfl, rfl⟩ (by kernel_rfl) rfl
    (fun f fn hf hfn => by
      obtain rfl : f = 5 := Option.some.inj ((show Tryd.prog.funcNamed "mimesis/mimesislaw23.IrUses" = some 5 by kernel_rfl).symm.trans hf) |>.symm
      obtain rfl : fn = Tryd.f5 := (Option.some.inj (Tryd.func5.symm.trans hfn)).symm
      exact ⟨by kernel_rfl, fun j t ht => by
        rw [Tryd.params5] at ht
        have hm : t ∈ [3, 38] := by have := Array.mem_of_getElem? ht; simp at this ⊢; first | omega | (repeat' first | (subst this; first | exact rfl | exact Or.inl rfl | exact Or.inr rfl | exact Or.inr (Or.inl rfl) | exact Or.inr (Or.inr rfl)) | (rcases this with this | this))
        have hall : ([3, 38].all fun u => !Tryd.prog.wantsStandIn u) = true := by kernel_rfl
        exact (show Tryd.prog.wantsStandIn t = false by simpa using List.all_eq_true.1 hall t hm)⟩)
    (by kernel_rfl)
#print axioms proved
end Go.Proofs.YtlnbghhhifnbdaaDoor.irUses
