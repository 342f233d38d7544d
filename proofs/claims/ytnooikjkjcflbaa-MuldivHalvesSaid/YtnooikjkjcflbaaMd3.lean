/- Contracts of muldiv.Wide, upper, Has, quotient: what they answer. Conditions: the arguments are words where that is asked. -/
import Derived.Test.YtnooikjkjcflbaaMd2
namespace Go.Proofs.Ytnooikjkjcflbaa
open Go.RowKit

def wideH (a b : Int) : Int := (((((((a / 65536) * (b / 65536)) % 4294967296) + ((((((a / 65536) * (Go.bits .and .u32 b 65535)) % 4294967296) + ((((Go.bits .and .u32 a 65535) * (Go.bits .and .u32 b 65535)) % 4294967296) / 65536)) % 4294967296) / 65536)) % 4294967296) + ((((((Go.bits .and .u32 a 65535) * (b / 65536)) % 4294967296) + (Go.bits .and .u32 (((((a / 65536) * (Go.bits .and .u32 b 65535)) % 4294967296) + ((((Go.bits .and .u32 a 65535) * (Go.bits .and .u32 b 65535)) % 4294967296) / 65536)) % 4294967296) 65535)) % 4294967296) / 65536)) % 4294967296)
theorem wide_c (a b : Int) (w : World) : Calls Try.prog 12 #[.int .u32 a, .int .u32 b] w fun e w' => e = .returned (.tuple #[.int .u32 (wideH a b), .int .u32 ((a * b) % 4294967296)]) ∧ w = w' := by
  unfold wideH
  go_enter Try.func12, Try.ntmps12
  go_wp2
  go_ret2
  exact ⟨by first | rfl | (simp; done) | (simp [*]; done), rfl⟩

def upP (a b : Int) (sa sb : Bool) : Int :=
  let h := wideH a b
  let h := if (sa && negB a) = true then (h - b) % 4294967296 else h
  if (sb && negB b) = true then (h - a) % 4294967296 else h
set_option maxHeartbeats 2000000 in
theorem up_c (a b : Int) (sa sb : Bool) (w : World) : Calls Try.prog 13 #[.int .u32 a, .int .u32 b, .bool sa, .bool sb] w fun e w' => e = .returned (.int .u32 (upP a b sa sb)) ∧ w = w' := by
  unfold upP
  rcases Bool.eq_false_or_eq_true (negB a) with na | na <;> rcases Bool.eq_false_or_eq_true (negB b) with nb | nb <;> cases sa <;> cases sb
  all_goals
    simp only [na, nb, Bool.and_true, Bool.and_false, Bool.true_and, Bool.false_and, if_true, if_false, Bool.false_eq_true]
    go_enter Try.func13, Try.ntmps13
    go_wp2_with (first | (go_at_call 12; refine (wide_c a b _).mono ?_; rintro e w' ⟨rfl, rfl⟩) | (go_at_call_of 18 (Value.int IntKind.u32 a); refine (neg_c a _).mono ?_; rintro e w' ⟨rfl, rfl⟩) | (go_at_call_of 18 (Value.int IntKind.u32 b); refine (neg_c b _).mono ?_; rintro e w' ⟨rfl, rfl⟩))
    go_ret
    exact ⟨by first | rfl | (simp; done) | (simp [*]; done), rfl⟩

theorem has_c (op : Int) (w : World) : Calls Try.prog 8 #[.int .i64 op] w fun e w' => e = .returned (.bool (decide (50 ≤ op) && decide (op ≤ 57))) ∧ w = w' := by
  by_cases h : 50 ≤ op
  all_goals
    go_enter Try.func8, Try.ntmps8
    go_wp2
    go_ret
    exact ⟨by first | (simp [h]; done) | (simp [h]; omega), rfl⟩
theorem rhas_c (op : Int) (w : World) : Calls Try.prog 9 #[.int .i64 op] w fun e w' => e = .returned (.bool (decide (50 ≤ op) && decide (op ≤ 57))) ∧ w = w' := by
  by_cases h : 50 ≤ op
  all_goals
    go_enter Try.func9, Try.ntmps9
    go_wp2
    go_ret
    exact ⟨by first | (simp [h]; done) | (simp [h]; omega), rfl⟩

def qrP (a b : Int) (s : Bool) : Int × Int := if b = 0 then (4294967295, a) else if s = true then (quoP a b, remP a b) else (a / b, a % b)
theorem size_pos (b : Int) (h : 0 ≤ b) (h' : b ≤ 4294967295) : 0 ≤ sizeP b ∧ sizeP b ≤ 4294967295 ∧ (b ≠ 0 → 1 ≤ sizeP b) := by
  unfold sizeP
  simp only [beq_iff_eq]
  split <;> omega
set_option maxHeartbeats 2000000 in
theorem qr_c (a b : Int) (ha : 0 ≤ a) (ha' : a ≤ 4294967295) (hb : 0 ≤ b) (hb' : b ≤ 4294967295) (s : Bool) (w : World) : Calls Try.prog 14 #[.int .u32 a, .int .u32 b, .bool s] w fun e w' => e = .returned (.tuple #[.int .u32 (qrP a b s).1, .int .u32 (qrP a b s).2]) ∧ Below w.heap.size w w' := by
  unfold qrP
  by_cases h : b = 0
  · subst h
    go_enter Try.func14, Try.ntmps14
    go_wp2
    go_ret2
    exact ⟨by first | rfl | (simp; done) | (simp [*]; done), Below.refl _ _⟩
  · have hbb : (b == 0) = false := beq_eq_false_iff_ne.mpr h
    have s1 := (size_pos a ha ha').1
    have s2 := (size_pos a ha ha').2.1
    have s3 := (size_pos b hb hb').2.2 h
    rw [if_neg h]
    cases s with
    | true =>
      rw [if_pos rfl]
      go_enter Try.func14, Try.ntmps14
      go_wp2_with (go_at_call 19; refine (div_calls a b s1 s2 s3 _).mono ?_; rintro e w' ⟨rfl, hb⟩)
      go_ret2
      exact ⟨rfl, hb⟩
    | false =>
      rw [if_neg (by decide)]
      clear s1 s2 s3
      go_enter Try.func14, Try.ntmps14
      go_wp2
      go_quiet (fail)
      go_wp2
      go_ret2
      exact ⟨rfl, below_drewN (Below.refl _ _) _⟩
end Go.Proofs.Ytnooikjkjcflbaa
