/- Contract of the reference's Constant of layer 4: the same as encode.Constant's. Conditions: numbers are of their kinds. -/
import Derived.Test.YtnooikjkjcflbabDoorEe
import Derived.Test.YtnooikjkjcflbabDoorDn
namespace Go.Proofs.YtnooikjkjcflbabDoor
open Go.RowKit Go.Proofs.YtnooikjkjcflbabDoorW.PrintWords Go.Proofs.YtnooikjkjcflbabDoorW.PrintLast Go.Proofs.YtnooikjkjcflbabDoorW.PrintMore Go.Proofs.YtnooikjkjcflbabDoor.PDecodeWords
set_option linter.unusedVariables false
set_option linter.unusedSimpArgs false
attribute [local go_sem] alloc_out setCell_out

theorem bind_id {α : Type} (x : Option α) : (x.bind fun t => some t) = x := by cases x <;> rfl
theorem cbits (n : Int) (hn : 0 ≤ n ∧ n ≤ 4294967295) : mimesisref01_Bits.f 40 n 0 12 = some (n % 4096) ∧ mimesisref01_Bits.f 40 n 12 20 = some (n / 4096) ∧ mimesisref01_Bits.f 40 n 11 1 = some (n / 2048 % 2) := by
  have g := fun (hi lo : Nat) (a : lo ≤ hi) (b : hi ≤ 31) => dbits n hn hi lo a b 40 (by decide)
  have g1 := g 11 0 (by decide) (by decide)
  have g2 := g 31 12 (by decide) (by decide)
  have g3 := g 11 11 (by decide) (by decide)
  unfold mimesisref03_bits.f at g1 g2 g3
  rw [show wrap64 (wrap64 (((11 : Nat) : Int) - ((0 : Nat) : Int)) + 1) = 12 by unfold wrap64; omega] at g1
  rw [show wrap64 (wrap64 (((31 : Nat) : Int) - ((12 : Nat) : Int)) + 1) = 20 by unfold wrap64; omega] at g2
  rw [show wrap64 (wrap64 (((11 : Nat) : Int) - ((11 : Nat) : Int)) + 1) = 1 by unfold wrap64; omega] at g3
  simp only [bind_id, Nat.reduceSub, Nat.reduceAdd, Int.reducePow, Int.pow_zero, Int.ediv_one] at g1 g2 g3
  refine ⟨?_, ?_, ?_⟩
  · refine Eq.trans ?_ g1; rfl
  · refine Eq.trans ?_ (g2.trans ?_); rfl
    congr 1; omega
  · refine Eq.trans ?_ g3; rfl
theorem c_low (n : Int) (hn : 0 ≤ n ∧ n ≤ 4294967295) : sgx 12 (n % 4096) = cLow n := by
  unfold sgx cLow wrap32
  simp only [Nat.reduceSub, Int.reducePow]
  split <;> omega
theorem c_high1 (n : Int) (hn : 0 ≤ n ∧ n ≤ 4294967295) (h : n / 2048 % 2 = 1) : (n / 4096 + 1) % 1048576 * 4096 = cHigh n := by
  unfold cHigh wrap32
  omega
theorem c_high0 (n : Int) (hn : 0 ≤ n ∧ n ≤ 4294967295) (h : ¬ n / 2048 % 2 = 1) : n / 4096 * 4096 = cHigh n := by
  unfold cHigh wrap32
  omega
/-- What both Constants answer. -/
def ConstIs (rd n : Int) (w' : World) (v : Value) : Prop :=
  (cHigh n = 0 → ∃ g cap, v = .slice (some ⟨g, 0, none⟩) 1 cap ∧ At6 w' g 0 19 rd 0 0 (cLow n) 0) ∧
  (¬ cHigh n = 0 → cLow n = 0 → ∃ g cap, v = .slice (some ⟨g, 0, none⟩) 1 cap ∧ At6 w' g 0 1 rd 0 0 (cHigh n) 0) ∧
  (¬ cHigh n = 0 → ¬ cLow n = 0 → ∃ g cap, v = .slice (some ⟨g, 0, none⟩) 2 cap ∧ At6 w' g 0 1 rd 0 0 (cHigh n) 0 ∧ At6 w' g 6 19 rd rd 0 (cLow n) 0)
set_option maxHeartbeats 8000000 in
set_option maxRecDepth 100000 in
theorem rconst_c (rd n : Int) (hr : 0 ≤ rd ∧ rd ≤ 31) (hn : 0 ≤ n ∧ n ≤ 4294967295) (W : World) : Calls Tryd.prog 35 #[.int .i64 rd, .int .u32 n] W fun e w' =>
    (∃ v, e = .returned v ∧ ConstIs rd n w' v) ∧ Below W.heap.size W w' := by
  obtain ⟨g1, g2, g3⟩ := cbits n hn
  have gx := dext (n % 4096) 12 (by decide) (by decide) ⟨by omega, by simp only [Int.reducePow]; omega⟩ 40 (by decide)
  have gy : mimesisref01_Extend.f 40 (n % 4096) 12 = some (cLow n) := by
    have := c_low n hn
    unfold sgx at this
    rw [this] at gx
    exact gx
  have h1 := Lib.hid (fun v => mimesisref01_Bits.calls 40 n 0 12 _ v g1)
  have h2 := Lib.hid (fun v => mimesisref01_Bits.calls 40 n 12 20 _ v g2)
  have h3 := Lib.hid (fun v => mimesisref01_Bits.calls 40 n 11 1 _ v g3)
  have h4 := Lib.hid (fun v => mimesisref01_Extend.calls 40 _ 12 _ v gy)
  have hb := c_high1 n hn
  have hc := c_high0 n hn
  have hz : 0 ≤ n / 4096 ∧ n / 4096 ≤ 1048575 := by omega
  clear g1 g2 g3 gx gy
  have hs : n / 2048 % 2 = 1 ∨ n / 2048 % 2 = 0 := by omega
  unfold ConstIs
  generalize hcl : cLow n = lo at *
  generalize hch : cHigh n = hi at *
  clear hcl hch
  generalize n / 4096 = q at *
  generalize n % 4096 = m at *
  generalize n / 2048 % 2 = s at *
  obtain ⟨q0, q1⟩ := hz
  by_cases e1 : hi = 0 <;> by_cases e2 : lo = 0 <;> rcases hs with rfl | rfl
  all_goals
    first | (have hv := hb rfl) | (have hv := hc (by decide))
    clear hb hc
    subst hv
    first | (have k0 : ((q + 1) % 1048576 == 0) = true := yb (by omega)) | (have k0 : ((q + 1) % 1048576 == 0) = false := nb (by omega)) | skip
    first | (have k2 : (q == 0) = true := yb (by omega)) | (have k2 : (q == 0) = false := nb (by omega)) | skip
    first | (have k3 : (lo == 0) = true := yb (by assumption)) | (have k3 : (lo == 0) = false := nb (by assumption))
    have E1 := Lib.hid e1
    have E2 := Lib.hid e2
    clear e1 e2
    go_enter Tryd.func35, Tryd.ntmps35
    go_wp2_with (first | (go_at_call 65; refine (h4.out _).mono ?_; rintro e w' ⟨rfl, ⟨nd, rfl⟩⟩) | (go_at_call_of 66 (Value.int IntKind.i64 0); refine (h1.out _).mono ?_; rintro e w' ⟨rfl, ⟨nd, rfl⟩⟩) | (go_at_call_of 66 (Value.int IntKind.i64 20); refine (h2.out _).mono ?_; rintro e w' ⟨rfl, ⟨nd, rfl⟩⟩) | (go_at_call_of 66 (Value.int IntKind.i64 11); refine (h3.out _).mono ?_; rintro e w' ⟨rfl, ⟨nd, rfl⟩⟩))
    go_ret
    refine ⟨⟨_, rfl, ?_⟩, by repeat (first | (with_reducible exact Below.refl _ _) | (with_reducible refine bal ?_ _) | (with_reducible refine bdn ?_ _))⟩
    first
      | exact ⟨fun _ => ⟨_, _, rfl, by simp [At6, go_sem]⟩, fun h => absurd E1.out h, fun h => absurd E1.out h⟩
      | exact ⟨fun h => absurd h E1.out, fun _ _ => ⟨_, _, rfl, by simp [At6, go_sem]⟩, fun _ h => absurd E2.out h⟩
      | exact ⟨fun h => absurd h E1.out, fun _ h => absurd h E2.out, fun _ _ => ⟨_, _, rfl, by simp [At6, go_sem], by simp [At6, go_sem]⟩⟩
end Go.Proofs.YtnooikjkjcflbabDoor
