/- Contracts of csr's Write and of its closure. Conditions: numbers are of their kinds; the listed variable holds what the program's text lays in it. -/
import Derived.Test.YtnooikjkjcflbabDoorCt
namespace Go.Proofs.YtnooikjkjcflbabDoor
open Go.RowKit
set_option linter.unusedVariables false
set_option linter.unusedSimpArgs false

theorem cu64w (n : Int) (h : 0 ≤ n) (h' : n < 2 ^ 64) : IntKind.u64.wrap n = n := IntWalk.u64_in n ⟨h, by omega⟩
theorem or_lo (a w : Int) (ha : 0 ≤ a ∧ a ≤ 4294967295) (hw : 0 ≤ w ∧ w ≤ 4294967295) : bits .or .u64 (a * 4294967296) w = a * 4294967296 + w := by
  obtain ⟨m, rfl⟩ := Int.eq_ofNat_of_zero_le ha.1
  obtain ⟨n, rfl⟩ := Int.eq_ofNat_of_zero_le hw.1
  have e := (bits_nat .u64 64 (by decide) cu64w (m * 4294967296) n (by omega) (by omega)).2
  have h2 := Nat.two_pow_add_eq_or_of_lt (i := 32) (b := n) (by omega) m
  rw [show m * 4294967296 ||| n = m * 4294967296 + n by rw [Nat.mul_comm]; exact h2.symm] at e
  rw [show ((m * 4294967296 : Nat) : Int) = (m : Int) * 4294967296 by omega, show ((m * 4294967296 + n : Nat) : Int) = (m : Int) * 4294967296 + n by omega] at e
  exact e
theorem or_hi (a w : Int) (ha : 0 ≤ a ∧ a ≤ 4294967295) (hw : 0 ≤ w ∧ w ≤ 4294967295) : bits .or .u64 a (w * 4294967296) = w * 4294967296 + a := by
  obtain ⟨m, rfl⟩ := Int.eq_ofNat_of_zero_le ha.1
  obtain ⟨n, rfl⟩ := Int.eq_ofNat_of_zero_le hw.1
  have e := (bits_nat .u64 64 (by decide) cu64w m (n * 4294967296) (by omega) (by omega)).2
  have h2 := Nat.two_pow_add_eq_or_of_lt (i := 32) (b := m) (by omega) n
  rw [show m ||| n * 4294967296 = n * 4294967296 + m by rw [Nat.or_comm, Nat.mul_comm]; exact h2.symm] at e
  rw [show ((n * 4294967296 : Nat) : Int) = (n : Int) * 4294967296 by omega, show ((n * 4294967296 + m : Nat) : Int) = (n : Int) * 4294967296 + m by omega] at e
  exact e
theorem and_lo (n : Int) (h : 0 ≤ n ∧ n ≤ 18446744073709551615) : bits .and .u64 n 4294967295 = n % 4294967296 := bits_mask .u64 64 (by decide) cu64w 32 (by decide) n h.1 (by omega)
def putV (hi : Bool) (n wd : Int) : Int := if hi then wd * 4294967296 + n % 4294967296 else n / 4294967296 * 4294967296 + wd
theorem put_hi (csr n wd : Int) (b1 b2 : Nat) (h0 : bits .and .i64 csr 128 = 128) (hn : 0 ≤ n ∧ n ≤ 18446744073709551615) (hw : 0 ≤ wd ∧ wd ≤ 4294967295) (w : World) (hc : w.cell? ⟨b1, 0, none⟩ = some (.int .i64 csr)) (hd : w.cell? ⟨b2, 0, none⟩ = some (.int .u32 wd)) :
    Calls Tryd.prog 60 #[.int .u64 n, .pointer (some ⟨b1, 0, none⟩), .pointer (some ⟨b2, 0, none⟩)] w fun e w' => e = .returned (.int .u64 (putV true n wd)) ∧ w = w' := by
  have e1 := and_lo n hn
  have e2 := or_hi (n % 4294967296) wd (by omega) hw
  have E2 := Lib.hid e2
  have e3 : IntKind.u64.wrap (wd * 4294967296) = wd * 4294967296 := cu64w _ (by omega) (by omega)
  have e4 : IntKind.u64.wrap wd = wd := cu64w _ (by omega) (by omega)
  clear e2 hn hw
  go_enter Tryd.func60, Tryd.ntmps60
  go_wp2
  go_ret
  exact ⟨congrArg (fun v => Ending.returned (.int .u64 v)) (by simpa [putV] using E2.out), rfl⟩
theorem put_lo (csr n wd : Int) (b1 b2 : Nat) (h0 : bits .and .i64 csr 128 = 0) (hn : 0 ≤ n ∧ n ≤ 18446744073709551615) (hw : 0 ≤ wd ∧ wd ≤ 4294967295) (w : World) (hc : w.cell? ⟨b1, 0, none⟩ = some (.int .i64 csr)) (hd : w.cell? ⟨b2, 0, none⟩ = some (.int .u32 wd)) :
    Calls Tryd.prog 60 #[.int .u64 n, .pointer (some ⟨b1, 0, none⟩), .pointer (some ⟨b2, 0, none⟩)] w fun e w' => e = .returned (.int .u64 (putV false n wd)) ∧ w = w' := by
  have e2 := or_lo (n / 4294967296) wd (by omega) hw
  have E2 := Lib.hid e2
  have e3 : IntKind.u64.wrap (n / 4294967296 * 4294967296) = n / 4294967296 * 4294967296 := cu64w _ (by omega) (by omega)
  have e4 : IntKind.u64.wrap wd = wd := cu64w _ (by omega) (by omega)
  clear e2 hn hw
  go_enter Tryd.func60, Tryd.ntmps60
  go_wp2
  go_ret
  exact ⟨congrArg (fun v => Ending.returned (.int .u64 v)) (by simpa [putV] using E2.out), rfl⟩
end Go.Proofs.YtnooikjkjcflbabDoor
