/- Contracts of muldiv.divided and of its deferred closure: the quotient and the rest that are answered. Conditions: the divisor without its sign is at least 1, the other one is a word. -/
import Derived.Test.YtnooikjkjcflbaaMd
import Derived.WalkSmall
namespace Go.Proofs.Ytnooikjkjcflbaa
open Go.RowKit

theorem hmf (fn : Fn) (first cap : Array Value) (w : World) : (Instr.makeFunc fn first cap).run Try.prog w = .ok (.func fn first cap) w := rfl

def negB (a : Int) : Bool := a / 2147483648 == 1
theorem neg_q (a : Int) (w : World) : Calls Try.prog 18 #[.int .u32 a] w fun e w' => e = .returned (.bool (negB a)) ∧ w' = w := (neg_calls a w).mono fun _ _ h => ⟨h.1, h.2.symm⟩
theorem neg_c (a : Int) (w : World) : Calls Try.prog 18 #[.int .u32 a] w fun e w' => e = .returned (.bool (negB a)) ∧ w = w' := neg_calls a w

set_option maxHeartbeats 1000000 in
/-- The deferred closure: its captured variables lie in four blocks of one cell. -/
theorem fin_calls (B : Nat) (a b q r : Int) (u : FrameMode) (w : World) (ha : w.cell? ⟨B, 0, none⟩ = some (.int .u32 a)) (hb : w.cell? ⟨B + 1, 0, none⟩ = some (.int .u32 b))
    (hq : w.cell? ⟨B + 2, 0, none⟩ = some (.int .u32 q)) (hr : w.cell? ⟨B + 3, 0, none⟩ = some (.int .u32 r)) (fq : w.frozen? ⟨B + 2, 0, none⟩ = false) (fr : w.frozen? ⟨B + 3, 0, none⟩ = false) :
    CallsD Try.prog 20 #[.pointer (some ⟨B, 0, none⟩), .pointer (some ⟨B + 1, 0, none⟩), .pointer (some ⟨B + 2, 0, none⟩), .pointer (some ⟨B + 3, 0, none⟩)] u w fun e u' w' =>
      u' = u ∧ (e = .returned (.tuple #[]) ∧ w'.cell? ⟨B + 2, 0, none⟩ = some (.int .u32 (if (negB a != negB b) = true then (-q) % 4294967296 else q)) ∧ w'.cell? ⟨B + 3, 0, none⟩ = some (.int .u32 (if negB a = true then (-r) % 4294967296 else r)) ∧ Below B w w') := by
  have e1 : ¬ (B + 2 = B + 3) := by omega
  have e2 : ¬ (B = B + 2) := by omega
  have e3 : ¬ (B = B + 3) := by omega
  rcases Bool.eq_false_or_eq_true (negB a) with na | na <;> rcases Bool.eq_false_or_eq_true (negB b) with nb | nb
  all_goals
    rw [na, nb]
    go_enter_d Try.func20, Try.ntmps20
    go_wp2
    go_quiet ((first | (go_at_call 18; exact Calls.quiet_of_same (neg_q a _)) | (go_at_call 18; exact Calls.quiet_of_same (neg_q b _))))
    go_wp2_with (go_at_call 18; refine (neg_c a _).mono ?_; rintro e w' ⟨rfl, rfl⟩)
    go_end0
    refine ⟨?_, ?_, ?_, ?_⟩
    · rfl
    · go_simp
    · go_simp
    · repeat (first | exact Below.refl _ _ | exact below_drewN (Below.refl _ _) _ | refine Below.setCell ?_ (by simp) _)

theorem size_q (a : Int) (w : World) : Calls Try.prog 21 #[.int .u32 a] w fun e w' => e = .returned (.int .u32 (sizeP a)) ∧ w' = w := (size_calls a w).mono fun _ _ h => ⟨h.1, h.2.symm⟩
def quoP (a b : Int) : Int := if (negB a != negB b) = true then (-(sizeP a / sizeP b)) % 4294967296 else sizeP a / sizeP b
def remP (a b : Int) : Int := if negB a = true then (-(sizeP a % sizeP b)) % 4294967296 else sizeP a % sizeP b
set_option maxHeartbeats 2000000 in
set_option maxRecDepth 100000 in
theorem div_calls (a b : Int) (h0 : 0 ≤ sizeP a) (h2 : sizeP a ≤ 4294967295) (h1 : 1 ≤ sizeP b) (w : World) : Calls Try.prog 19 #[.int .u32 a, .int .u32 b] w fun e w' => e = .returned (.tuple #[.int .u32 (quoP a b), .int .u32 (remP a b)]) ∧ Below w.heap.size w w' := by
  have k0 : ¬ sizeP b = 0 := by omega
  have et : IntKind.u32.wrap ((sizeP a).tdiv (sizeP b)) = sizeP a / sizeP b := by
    rw [Int.tdiv_eq_ediv_of_nonneg h0]
    have h3 : 0 ≤ sizeP a / sizeP b := Int.ediv_nonneg h0 (by omega)
    have h4 : sizeP a / sizeP b ≤ sizeP a := Int.ediv_le_self _ h0
    exact IntWalk.u32_in _ ⟨h3, by omega⟩
  have em : (sizeP a).tmod (sizeP b) = sizeP a % sizeP b := Int.tmod_eq_emod_of_nonneg h0
  have Et := Lib.hid et
  have Em := Lib.hid em
  clear et em
  have hm := hmf
  go_enter_defers Try.func19, Try.ntmps19
  go_wp2
  go_region_held3 (fun w' => w'.cell? ⟨w.heap.size, 0, none⟩ = some (.int .u32 a) ∧ w'.cell? ⟨w.heap.size + 1, 0, none⟩ = some (.int .u32 b)) (simp [go_sem, *]) (first | (go_at_call 21; refine (size_calls a _).mono ?_; rintro e w' ⟨rfl, rfl⟩) | (go_at_call 21; refine (size_calls b _).mono ?_; rintro e w' ⟨rfl, rfl⟩))
  go_wp2
  rw [Et.out, Em.out]
  refine leaves_cons (f := 20) (args := #[.pointer (some ⟨w.heap.size, 0, none⟩), .pointer (some ⟨w.heap.size + 1, 0, none⟩), .pointer (some ⟨w.heap.size + 2, 0, none⟩), .pointer (some ⟨w.heap.size + 3, 0, none⟩)]) (by simp) (by simp [go_sem]) ?_
  refine (fin_calls w.heap.size a b (sizeP a / sizeP b) (sizeP a % sizeP b) .returning _ ?_ ?_ ?_ ?_ ?_ ?_).mono ?_
  · simp [go_sem]
  · simp [go_sem]
  · simp [go_sem]
  · simp [go_sem]
  · simp [go_sem]
  · simp [go_sem]
  rintro e u' w'' ⟨rfl, rfl, c1, c2, hb⟩
  refine ⟨.tuple #[.int .u32 (quoP a b), .int .u32 (remP a b)], ?_, rfl, ?_⟩
  · unfold quoP remP
    simp [results, Try.results19, go_sem, c1, c2]
  · refine Below.trans ?_ hb
    repeat (first | exact Below.refl _ _ | refine Below.drew ?_ | refine Below.alloc ?_ (by simp <;> omega) _)
end Go.Proofs.Ytnooikjkjcflbaa
