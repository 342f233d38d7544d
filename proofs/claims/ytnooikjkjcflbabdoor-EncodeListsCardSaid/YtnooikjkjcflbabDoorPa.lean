/- Contract of ref01.Put where the field is empty: the word and the field are added. Conditions: words are words; the place is within a word. -/
import Derived.Test.YtnooikjkjcflbabDoorDa
import Derived.Test.YtnooikjkjcflbabDoorRg
import Derived.BigQuiet
namespace Go.Proofs.YtnooikjkjcflbabDoor
open Go.RowKit Go.Proofs.YtnooikjkjcflbabDoorW.PrintWords Go.Proofs.YtnooikjkjcflbabDoorW.PrintLast Go.Proofs.YtnooikjkjcflbabDoorW.PrintMore Go.Proofs.YtnooikjkjcflbabDoor.PDecodeWords
set_option linter.unusedVariables false
set_option linter.unusedSimpArgs false

theorem dpower_c (n : Nat) (hn : n ≤ 32) (w : World) : Calls Tryd.prog 67 #[.int .i64 n] w fun e w' => e = .returned (.int .u64 (2 ^ n)) ∧ Drawn0 w w' := mimesisref01_Power.calls 40 n _ w (dpow n hn 40 (by decide))
theorem rbits_f (lo len : Nat) (hs : lo + len ≤ 32) (W : Int) (h : 0 ≤ W ∧ W ≤ 4294967295) : mimesisref01_Bits.f 40 W lo len = some (W / 2 ^ lo % 2 ^ len) := by
  have p0 : (0 : Int) < 2 ^ lo := Int.pow_pos (by decide)
  have p1 : (0 : Int) < 2 ^ len := Int.pow_pos (by decide)
  have q0 : 0 ≤ W / 2 ^ lo := Int.ediv_nonneg h.1 (Int.le_of_lt p0)
  have q1 : W / 2 ^ lo ≤ W := Int.ediv_le_self _ h.1
  have u0 : IntKind.u64.wrap W = W := IntWalk.u64_in _ (by omega)
  have u1 : IntKind.u64.wrap (W / 2 ^ lo) = W / 2 ^ lo := IntWalk.u64_in _ (by omega)
  have r0 : 0 ≤ W / 2 ^ lo % 2 ^ len := Int.emod_nonneg _ (by omega)
  have r1 : W / 2 ^ lo % 2 ^ len ≤ W / 2 ^ lo := by
    have := Int.emod_nonneg (W / 2 ^ lo) (b := 2 ^ len) (by omega)
    have h2 := Int.mul_ediv_add_emod (W / 2 ^ lo) (2 ^ len)
    have h3 : 0 ≤ (2 : Int) ^ len * (W / 2 ^ lo / 2 ^ len) := Int.mul_nonneg (Int.le_of_lt p1) (Int.ediv_nonneg q0 (Int.le_of_lt p1))
    omega
  unfold mimesisref01_Bits.f
  rw [dpow lo (by omega) 40 (by decide), dpow len (by omega) 40 (by decide)]
  simp only [Option.bind_some]
  rw [if_neg (by omega)]
  rw [if_neg (by omega)]
  simp only [Option.some.injEq]
  rw [u0, Int.tdiv_eq_ediv_of_nonneg h.1, u1, Int.tmod_eq_emod_of_nonneg q0]
  exact Int.emod_eq_of_lt r0 (by omega)
theorem rbits_c (lo len : Nat) (hs : lo + len ≤ 32) (W : Int) (h : 0 ≤ W ∧ W ≤ 4294967295) (w : World) : Calls Tryd.prog 66 #[.int .u32 W, .int .i64 lo, .int .i64 len] w fun e w' => e = .returned (.int .u32 (W / 2 ^ lo % 2 ^ len)) ∧ Drawn0 w w' := mimesisref01_Bits.calls 40 W lo len _ w (rbits_f lo len hs W h)
theorem put_sum (W x p q : Int) (hW : 0 ≤ W ∧ W ≤ 4294967295) (hx : 0 ≤ x ∧ x ≤ 4294967295) (p0 : 0 < p) (q0 : 0 < q) (hr : W + x % q * p ≤ 4294967295) :
    IntKind.u64.wrap (IntKind.u64.wrap (IntKind.u64.wrap W) + IntKind.u64.wrap ((IntKind.u64.wrap x).tmod q * p)) % 4294967296 = W + x % q * p := by
  have a0 : 0 ≤ x % q := Int.emod_nonneg _ (by omega)
  have a1 : 0 ≤ x % q * p := Int.mul_nonneg a0 (Int.le_of_lt p0)
  have u0 : IntKind.u64.wrap W = W := IntWalk.u64_in _ (by omega)
  have u1 : IntKind.u64.wrap x = x := IntWalk.u64_in _ (by omega)
  rw [u1, Int.tmod_eq_emod_of_nonneg hx.1]
  generalize x % q * p = y at *
  have u2 : IntKind.u64.wrap y = y := IntWalk.u64_in _ (by omega)
  rw [u0, u0, u2]
  have u3 : IntKind.u64.wrap (W + y) = W + y := IntWalk.u64_in _ (by omega)
  rw [u3]
  omega
set_option maxHeartbeats 4000000 in
set_option maxRecDepth 100000 in
theorem rput_c (lo len : Nat) (hl : 1 ≤ len) (hs : lo + len ≤ 32) (W x : Int) (hW : 0 ≤ W ∧ W ≤ 4294967295) (hx : 0 ≤ x ∧ x ≤ 4294967295) (hz : W / 2 ^ lo % 2 ^ len = 0) (hr : W + x % 2 ^ len * 2 ^ lo ≤ 4294967295) (w : World) :
    Calls Tryd.prog 76 #[.int .u32 W, .int .i64 lo, .int .i64 len, .int .u32 x] w fun e w' => e = .returned (.int .u32 (W + x % 2 ^ len * 2 ^ lo)) ∧ Drawn0 w w' := by
  have h1 := fun v => dpower_c lo (by omega) v
  have h2 := fun v => dpower_c len (by omega) v
  have h3 := fun v => rbits_c lo len hs W hW v
  rw [hz] at h3
  have p0 : (0 : Int) < 2 ^ lo := Int.pow_pos (by decide)
  have p1 : (0 : Int) < 2 ^ len := Int.pow_pos (by decide)
  have e1 : (lo : Int) = (lo : Int) := rfl
  generalize (2 : Int) ^ lo = p at *
  generalize (2 : Int) ^ len = q at *
  have H1 := Lib.hid h1
  have H2 := Lib.hid h2
  have H3 := Lib.hid h3
  have k0 : (q == 0) = false := nb (by omega)
  have k1 : ¬ q = 0 := by omega
  have k2 : q ≠ 0 := k1
  clear h1 h2 h3 hz hs hl e1
  generalize (lo : Int) = a at *
  generalize (len : Int) = b at *
  have HX := Lib.hid hx
  have HW := Lib.hid hW
  have HR := Lib.hid hr
  have HP := Lib.hid p0
  have HQ := Lib.hid p1
  clear hx hW hr p1 p0
  go_enter Tryd.func76, Tryd.ntmps76
  go_wp2_with (first | (go_at_call 66; refine (H3.out _).mono ?_; rintro e w' ⟨rfl, ⟨nd, rfl⟩⟩) | (go_at_call 67; refine (H1.out _).mono ?_; rintro e w' ⟨rfl, ⟨nd, rfl⟩⟩))
  go_quiet (first | (go_at_call 67; (with_reducible refine Calls.mono (H1.out _) ?_); rintro e w' ⟨rfl, ⟨nd, rfl⟩⟩; (try first | exact ⟨rfl, _, World.drewN_drewN _ _ _⟩ | exact ⟨rfl, _, Eq.trans (World.drewN_drewN _ _ _) (congrArg (World.drewN _) (Nat.add_assoc _ _ _))⟩)) | (go_at_call 67; (with_reducible refine Calls.mono (H2.out _) ?_); rintro e w' ⟨rfl, ⟨nd, rfl⟩⟩; (try first | exact ⟨rfl, _, World.drewN_drewN _ _ _⟩ | exact ⟨rfl, _, Eq.trans (World.drewN_drewN _ _ _) (congrArg (World.drewN _) (Nat.add_assoc _ _ _))⟩)))
  go_wp2_with fail
  go_ret
  exact ⟨congrArg (fun v => Ending.returned (.int .u32 v)) (put_sum W x p q HW.out HX.out HP.out HQ.out HR.out), by repeat (first | exact Drawn0.refl _ | apply Drawn0.step)⟩
end Go.Proofs.YtnooikjkjcflbabDoor
