/- The walk of the law IrClones: it returns true. Conditions: the lists read as the given ones; the listed variable holds what the program's text lays in it. -/
import Derived.Test.YtlnbghhhifnbdaaZYCz
import Derived.Test.YtlnbghhhifnbdaaZYTz
namespace Go.Proofs.Ytlnbghhhifnbdaa
open Go.RowKit Go.Proofs.YtlnbghhhifnbdaaW.PrintWords Go.Proofs.YtlnbghhhifnbdaaW.PrintLast Go.Proofs.YtlnbghhhifnbdaaW.PrintMore Go.Proofs.Ytlnbghhhifnbdaa.PNumberDoes
set_option linter.unusedVariables false
set_option linter.unusedSimpArgs false

theorem opBk_of (l : List S59) : (l.map opOf).map opBk = l := by
 rw [List.map_map]
 exact List.map_id'' (fun x => rfl) l
theorem valBk_of (l : List S84) : (l.map valOf).map valBk = l := by
 rw [List.map_map]
 exact List.map_id'' (fun x => rfl) l
theorem exitBk_of (l : List S64) : (l.map exitOf).map exitBk = l := by
 rw [List.map_map]
 refine List.map_id'' (fun x => ?_) l
 show exitBk (exitOf x) = x
 cases x
 simp only [exitBk, exitOf, valBk_of]
def AggB (lp lo le : Nat) (pcs : List Int) (ops : List S59) (exits : List S64) (last : Int) (v : Value) (w : World) : Prop :=
 ∃ A0 A1 A2 c0 c1 c2, v = .agg #[.slice A0 lp c0, .slice A1 lo c1, .slice A2 le c2, .int .i64 last] ∧ Hid ((Kd.int .u32).C w A0 lp pcs ∧ k59.C w A1 lo ops ∧ k64.C w A2 le exits)
theorem AggB.keep {lp lo le : Nat} {pcs : List Int} {ops : List S59} {exits : List S64} {last : Int} (v : Value) (w1 w2 : World) (h : AggB lp lo le pcs ops exits last v w1) (hb : Below w1.heap.size w1 w2) : AggB lp lo le pcs ops exits last v w2 := by
 obtain ⟨A0, A1, A2, c0, c1, c2, hv, hk⟩ := h
 exact ⟨A0, A1, A2, c0, c1, c2, hv, Lib.hid ⟨Kd.qp hk.out.1 hb, Kd.qp hk.out.2.1 hb, Kd.qp hk.out.2.2 hb⟩⟩
theorem small_of (pcs : List Int) (ops : List S59) (exits : List S64) (last : Int) (hL : lightB pcs ops exits = true) : SmallB (blkOf pcs ops exits last) := by
 obtain ⟨a, b, c, d, e⟩ := light_maps pcs ops exits hL
 refine ⟨by show pcs.length ≤ _; omega, by show (ops.map opOf).length ≤ _; rw [List.length_map]; omega, by show (exits.map exitOf).length ≤ _; rw [List.length_map]; omega, fun x hx => ?_⟩
 obtain ⟨y, hy, rfl⟩ := List.mem_map.1 (show x ∈ exits.map exitOf from hx)
 show (y.f4.map valOf).length ≤ _
 rw [List.length_map]
 have := d y hy
 omega
theorem back_a (pcs : List Int) (ops : List S59) (exits : List S64) (last : Int) (hL : lightB pcs ops exits = true) (g : Nat) (w : World) (hB : BlockAt w g (blkOf pcs ops exits last)) :
  Calls Try.prog 17 #[.pointer (some ⟨g, 0, none⟩)] w fun e w' => (∃ v, e = .returned v ∧ AggB pcs.length ops.length exits.length pcs ops exits last v w') ∧ Below w.heap.size w w' := by
 have s := small_of pcs ops exits last hL
 refine (back_c _ g w hB s.m s.o s.e).mono ?_
 rintro e w' ⟨⟨A0, A1, A2, c0, c1, c2, rfl, h0, h1, h2, -, -⟩, hb⟩
 have e1 : (blkOf pcs ops exits last).ops.length = ops.length := List.length_map _
 have e2 : (blkOf pcs ops exits last).exits.length = exits.length := List.length_map _
 rw [show (blkOf pcs ops exits last).ops.map opBk = ops from opBk_of ops] at h1
 rw [show (blkOf pcs ops exits last).exits.map exitBk = exits from exitBk_of exits] at h2
 rw [e1] at h1
 rw [e2] at h2
 exact ⟨⟨_, rfl, A0, A1, A2, c0, c1, c2, by rw [e1, e2]; rfl, Lib.hid ⟨h0, h1, h2⟩⟩, hb⟩
theorem rsame_a (A0 A1 A2 D0 D1 D2 : Option Addr) (c0 c1 c2 d0 d1 d2 : Nat) (last : Int) (pcs : List Int) (ops : List S59) (exits : List S64) (hL : lightB pcs ops exits = true) (w : World)
  (hk : Hid ((Kd.int .u32).C w D0 pcs.length pcs ∧ k59.C w D1 ops.length ops ∧ k64.C w D2 exits.length exits)) (h : ArgB w A0 A1 A2 c0 c1 c2 pcs ops exits) :
  Calls Try.prog 23 #[.agg #[.slice D0 pcs.length d0, .slice D1 ops.length d1, .slice D2 exits.length d2, .int .i64 last], .agg #[.slice A0 pcs.length c0, .slice A1 ops.length c1, .slice A2 exits.length c2, .int .i64 last]] w fun e w' => e = .returned (.bool true) ∧ Below w.heap.size w w' := by
 obtain ⟨a, b, c, d, -⟩ := light_maps pcs ops exits hL
 have dm : ∀ x ∈ exits, x.f4.length ≤ 1000000 := fun x hx => by have := d x hx; omega
 refine (rsame_c D0 D1 D2 A0 A1 A2 d0 d1 d2 c0 c1 c2 last last pcs pcs ops ops exits exits (by omega) (by omega) (by omega) dm dm w hk.out.1 hk.out.2.1 hk.out.2.2 h.C0 h.C1 h.C2).mono ?_
 rintro e w' ⟨hr, hb⟩
 refine ⟨?_, hb⟩
 rw [SameR.dec hr, decG_yes ⟨rfl, rfl, rfl, rfl⟩]
end Go.Proofs.Ytlnbghhhifnbdaa
