/- Contract of encode.Constant. Conditions: numbers are of their kinds. -/
import Derived.Test.YtnooikjkjcflbabDoorEd
namespace Go.Proofs.YtnooikjkjcflbabDoor
open Go.RowKit
set_option linter.unusedVariables false
set_option linter.unusedSimpArgs false

def cLow (n : Int) : Int := wrap32 (n * 1048576 % 4294967296) / 1048576 % 4294967296
def cHigh (n : Int) : Int := (n - wrap32 (n * 1048576 % 4294967296) / 1048576) % 4294967296
def At6 (w : World) (g o : Nat) (x0 x1 x2 x3 x4 x5 : Int) : Prop := w.cell? ⟨g, o, none⟩ = some (.int .i64 x0) ∧ w.cell? ⟨g, o + 1, none⟩ = some (.int .i64 x1) ∧ w.cell? ⟨g, o + 2, none⟩ = some (.int .i64 x2) ∧ w.cell? ⟨g, o + 3, none⟩ = some (.int .i64 x3) ∧ w.cell? ⟨g, o + 4, none⟩ = some (.int .u32 x4) ∧ w.cell? ⟨g, o + 5, none⟩ = some (.int .i64 x5)
theorem app12 (a0 a1 a2 a3 a4 a5 b0 b1 b2 b3 b4 b5 : Value) (Z : Array Value) : (#[a0, a1, a2, a3, a4, a5] ++ (#[b0, b1, b2, b3, b4, b5] ++ Z))[0]? = some a0 ∧ (#[a0, a1, a2, a3, a4, a5] ++ (#[b0, b1, b2, b3, b4, b5] ++ Z))[1]? = some a1 ∧ (#[a0, a1, a2, a3, a4, a5] ++ (#[b0, b1, b2, b3, b4, b5] ++ Z))[2]? = some a2 ∧ (#[a0, a1, a2, a3, a4, a5] ++ (#[b0, b1, b2, b3, b4, b5] ++ Z))[3]? = some a3 ∧ (#[a0, a1, a2, a3, a4, a5] ++ (#[b0, b1, b2, b3, b4, b5] ++ Z))[4]? = some a4 ∧ (#[a0, a1, a2, a3, a4, a5] ++ (#[b0, b1, b2, b3, b4, b5] ++ Z))[5]? = some a5 ∧ (#[a0, a1, a2, a3, a4, a5] ++ (#[b0, b1, b2, b3, b4, b5] ++ Z))[6]? = some b0 ∧ (#[a0, a1, a2, a3, a4, a5] ++ (#[b0, b1, b2, b3, b4, b5] ++ Z))[7]? = some b1 ∧ (#[a0, a1, a2, a3, a4, a5] ++ (#[b0, b1, b2, b3, b4, b5] ++ Z))[8]? = some b2 ∧ (#[a0, a1, a2, a3, a4, a5] ++ (#[b0, b1, b2, b3, b4, b5] ++ Z))[9]? = some b3 ∧ (#[a0, a1, a2, a3, a4, a5] ++ (#[b0, b1, b2, b3, b4, b5] ++ Z))[10]? = some b4 ∧ (#[a0, a1, a2, a3, a4, a5] ++ (#[b0, b1, b2, b3, b4, b5] ++ Z))[11]? = some b5 := by
  obtain ⟨l⟩ := Z
  simp
theorem const_no (rd n : Int) (hr : rd < 0 ∨ 31 < rd) (W : World) : Calls Tryd.prog 34 #[.int .i64 rd, .int .u32 n] W fun e w' => e = .returned (.tuple #[.slice none 0 0, .int .i64 9]) ∧ W = w' := by
  rcases hr with hr | hr
  · go_enter Tryd.func34, Tryd.ntmps34
    go_wp2
    go_ret2
    exact ⟨rfl, rfl⟩
  · have h0 : ¬ rd < 0 := by omega
    go_enter Tryd.func34, Tryd.ntmps34
    go_wp2
    go_ret2
    exact ⟨rfl, rfl⟩
theorem const_A (rd n : Int) (hr : 0 ≤ rd ∧ rd ≤ 31) (hn : 0 ≤ n ∧ n ≤ 4294967295) (hh : cHigh n = 0) (W : World) : Calls Tryd.prog 34 #[.int .i64 rd, .int .u32 n] W fun e w' =>
    (∃ g cap, e = .returned (.tuple #[.slice (some ⟨g, 0, none⟩) 1 cap, .int .i64 0]) ∧ At6 w' g 0 19 rd 0 0 (cLow n) 0) ∧ Below W.heap.size W w' := by
  obtain ⟨r0, r1⟩ := hr
  obtain ⟨n0, n1⟩ := hn
  unfold cHigh at hh
  have k0 := yb hh
  clear hh
  go_enter Tryd.func34, Tryd.ntmps34
  go_wp2
  go_ret2
  exact ⟨⟨_, _, rfl, by simp [At6, go_sem, cLow]⟩, bal (Below.refl _ _) _⟩
theorem const_B (rd n : Int) (hr : 0 ≤ rd ∧ rd ≤ 31) (hn : 0 ≤ n ∧ n ≤ 4294967295) (hh : ¬ cHigh n = 0) (hl : cLow n = 0) (W : World) : Calls Tryd.prog 34 #[.int .i64 rd, .int .u32 n] W fun e w' =>
    (∃ g cap, e = .returned (.tuple #[.slice (some ⟨g, 0, none⟩) 1 cap, .int .i64 0]) ∧ At6 w' g 0 1 rd 0 0 (cHigh n) 0) ∧ Below W.heap.size W w' := by
  obtain ⟨r0, r1⟩ := hr
  obtain ⟨n0, n1⟩ := hn
  unfold cHigh at hh
  unfold cLow at hl
  have k0 := nb hh
  have k1 : (wrap32 (n * 1048576 % 4294967296) / 1048576 % 4294967296 != 0) = false := by rw [hl]; rfl
  clear hh hl
  go_enter Tryd.func34, Tryd.ntmps34
  go_wp2
  go_ret2
  exact ⟨⟨_, _, rfl, by simp [At6, go_sem, cHigh]⟩, bal (Below.refl _ _) _⟩
theorem const_C (rd n : Int) (hr : 0 ≤ rd ∧ rd ≤ 31) (hn : 0 ≤ n ∧ n ≤ 4294967295) (hh : ¬ cHigh n = 0) (hl : ¬ cLow n = 0) (W : World) : Calls Tryd.prog 34 #[.int .i64 rd, .int .u32 n] W fun e w' =>
    (∃ g cap, e = .returned (.tuple #[.slice (some ⟨g, 0, none⟩) 2 cap, .int .i64 0]) ∧ At6 w' g 0 1 rd 0 0 (cHigh n) 0 ∧ At6 w' g 6 19 rd rd 0 (cLow n) 0) ∧ Below W.heap.size W w' := by
  obtain ⟨r0, r1⟩ := hr
  obtain ⟨n0, n1⟩ := hn
  unfold cHigh at hh
  unfold cLow at hl
  have k0 := nb hh
  have k1 : (wrap32 (n * 1048576 % 4294967296) / 1048576 % 4294967296 != 0) = true := bne_iff_ne.mpr hl
  clear hh hl
  go_enter Tryd.func34, Tryd.ntmps34
  go_wp2
  go_ret2
  refine ⟨⟨_, _, rfl, ?_, ?_⟩, ?_⟩
  · simp [At6, go_sem, cHigh, app12]
  · simp [At6, go_sem, cLow, app12]
  · repeat (first | (with_reducible exact Below.refl _ _) | (with_reducible refine bal ?_ _) | (with_reducible refine Below.drew ?_) | (with_reducible refine bdn ?_ _))
end Go.Proofs.YtnooikjkjcflbabDoor
