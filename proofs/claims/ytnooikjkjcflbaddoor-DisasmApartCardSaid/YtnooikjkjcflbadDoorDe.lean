/- Contracts of package decode's registers, kind, laid, Decode and Legal. Conditions: a word is a word; the listed variable holds what the program's text lays in it. -/
import Derived.Test.YtnooikjkjcflbadDoorDd
namespace Go.Proofs.YtnooikjkjcflbadDoor
open Go.RowKit Go.Proofs.YtnooikjkjcflbadDoorW.PrintWords Go.Proofs.YtnooikjkjcflbadDoorW.PrintLast Go.Proofs.YtnooikjkjcflbadDoorW.PrintMore Go.Proofs.YtnooikjkjcflbadDoor.PDisasmWords
set_option linter.unusedVariables false
set_option linter.unusedSimpArgs false

theorem idx8 (g : Int) (hg : 0 ≤ g ∧ g ≤ 7) (w : World) : (Instr.index 127 (.agg #[.int .i64 28, .int .i64 30, .int .i64 31, .int .i64 32, .int .i64 33, .int .i64 34, .int .i64 36, .int .i64 37]) (.int .u32 g)).run Tryd.prog w = .ok (.int .i64 (kR g 0)) w := by
  rcases (by omega : g = 0 ∨ g = 1 ∨ g = 2 ∨ g = 3 ∨ g = 4 ∨ g = 5 ∨ g = 6 ∨ g = 7) with rfl | rfl | rfl | rfl | rfl | rfl | rfl | rfl <;> kernel_rfl
set_option maxHeartbeats 4000000 in
theorem registers_c (w : Int) (h : 0 ≤ w ∧ w ≤ 4294967295) (W : World) : Calls Tryd.prog 100 #[.int .u32 w] W fun e w' => e = .returned (.int .i64 (kR (w / 4096 % 8) (w / 33554432))) ∧ Drawn0 W w' := by
  have hf := Lib.hid (fun v => decode_field.calls w 14 12 (w / 4096 % 8) v (dfield w h).1)
  have hg : 0 ≤ w / 4096 % 8 ∧ w / 4096 % 8 ≤ 7 := by omega
  have ht : 0 ≤ w / 33554432 ∧ w / 33554432 ≤ 127 := by omega
  rcases (by omega : w / 33554432 = 0 ∨ w / 33554432 = 1 ∨ w / 33554432 = 32 ∨ (¬ w / 33554432 = 0 ∧ ¬ w / 33554432 = 1 ∧ ¬ w / 33554432 = 32)) with e | e | e | ⟨e1, e2, e3⟩
  · have hx := idx8 (w / 4096 % 8) hg
    have E := Lib.hid e
    have k0 : (w / 33554432 == 0) = true := yb e
    clear e
    generalize w / 4096 % 8 = g at *
    go_enter Tryd.func100, Tryd.ntmps100
    go_wp2_with (go_at_call 96; refine (hf.out _).mono ?_; rintro e w' ⟨rfl, ⟨nd, rfl⟩⟩)
    go_ret
    exact ⟨ret_i64 (by rw [E.out]), by repeat (first | exact Drawn0.refl _ | apply Drawn0.step)⟩
  · have E := Lib.hid e
    have k0 : (w / 33554432 == 0) = false := nb (by omega)
    have k1 : (w / 33554432 == 1) = true := yb e
    clear e
    generalize w / 4096 % 8 = g at *
    go_enter Tryd.func100, Tryd.ntmps100
    go_wp2_with (go_at_call 96; refine (hf.out _).mono ?_; rintro e w' ⟨rfl, ⟨nd, rfl⟩⟩)
    go_ret
    exact ⟨ret_i64 (by rw [E.out]; simp [kR]), by repeat (first | exact Drawn0.refl _ | apply Drawn0.step)⟩
  · have E := Lib.hid e
    have k0 : (w / 33554432 == 0) = false := nb (by omega)
    have k1 : (w / 33554432 == 1) = false := nb (by omega)
    have k2 : (w / 33554432 == 32) = true := yb e
    clear e
    generalize w / 4096 % 8 = g at *
    rcases (by omega : g = 0 ∨ g = 5 ∨ (¬ g = 0 ∧ ¬ g = 5)) with rfl | rfl | ⟨g1, g2⟩
    all_goals
      try (have j1 := nb g1
           have j2 := nb g2)
      go_enter Tryd.func100, Tryd.ntmps100
      go_wp2_with (go_at_call 96; refine (hf.out _).mono ?_; rintro e w' ⟨rfl, ⟨nd, rfl⟩⟩)
      go_ret
      exact ⟨ret_i64 (by rw [E.out]; simp [kR, *]), by repeat (first | exact Drawn0.refl _ | apply Drawn0.step)⟩
  · have k0 : (w / 33554432 == 0) = false := nb (by omega)
    have k1 : (w / 33554432 == 1) = false := nb (by omega)
    have k2 : (w / 33554432 == 32) = false := nb (by omega)
    generalize w / 4096 % 8 = g at *
    go_enter Tryd.func100, Tryd.ntmps100
    go_wp2_with (go_at_call 96; refine (hf.out _).mono ?_; rintro e w' ⟨rfl, ⟨nd, rfl⟩⟩)
    go_ret
    exact ⟨ret_i64 (by simp [kR, e1, e2, e3]), by repeat (first | exact Drawn0.refl _ | apply Drawn0.step)⟩
set_option maxHeartbeats 8000000 in
theorem kind_d (w : Int) (h : 0 ≤ w ∧ w ≤ 4294967295) (W : World) : Calls Tryd.prog 79 #[.int .u32 w] W fun e w' => e = .returned (.int .i64 (kindV w)) ∧ Drawn0 W w' := by
  have hf := Lib.hid (fun v => decode_field.calls w 14 12 (w / 4096 % 8) v (dfield w h).1)
  have hg : 0 ≤ w / 4096 % 8 ∧ w / 4096 % 8 ≤ 7 := by omega
  have h1 := Lib.hid (fun v => decode_branch.calls 5 _ _ v (dbranch _ hg))
  have h2 := Lib.hid (fun v => decode_load.calls 5 _ _ v (dload _ hg))
  have h3 := Lib.hid (fun v => decode_immediate.calls _ _ v (dimmediate w h))
  have h4 := Lib.hid (fun v => decode_system.calls 5 _ _ v (dsystem w h))
  have h5 := Lib.hid (registers_c w h)
  have ha := and127 w h
  unfold kindV
  obtain ⟨hg0, hg1⟩ := hg
  generalize w % 128 = o at *
  generalize w / 4096 % 8 = g at *
  generalize w / 33554432 = t at *
  clear h
  rcases (by omega : o = 55 ∨ o = 23 ∨ o = 111 ∨ o = 103 ∨ o = 99 ∨ o = 3 ∨ o = 35 ∨ o = 19 ∨ o = 51 ∨ o = 15 ∨ o = 115 ∨ (¬ o = 55 ∧ ¬ o = 23 ∧ ¬ o = 111 ∧ ¬ o = 103 ∧ ¬ o = 99 ∧ ¬ o = 3 ∧ ¬ o = 35 ∧ ¬ o = 19 ∧ ¬ o = 51 ∧ ¬ o = 15 ∧ ¬ o = 115)) with rfl | rfl | rfl | rfl | rfl | rfl | rfl | rfl | rfl | rfl | rfl | ⟨n1, n2, n3, n4, n5, n6, n7, n8, n9, n10, n11⟩
  all_goals
    try (have k1 := nb n1
         have k2 := nb n2
         have k3 := nb n3
         have k4 := nb n4
         have k5 := nb n5
         have k6 := nb n6
         have k7 := nb n7
         have k8 := nb n8
         have k9 := nb n9
         have k10 := nb n10
         have k11 := nb n11)
    rcases (by omega : g = 0 ∨ g = 1 ∨ g = 2 ∨ ¬ g < 3) with hz | hz | hz | hz
    all_goals
      try (have z1 : ¬ g < 2 := by omega
           have z2 : ¬ g = 0 := by omega
           have z3 : (g == 0) = false := nb z2)
      try subst hz
      go_enter Tryd.func79, Tryd.ntmps79
      go_wp2_with (first | (go_at_call 96; refine (hf.out _).mono ?_; rintro e w' ⟨rfl, ⟨nd, rfl⟩⟩) | (go_at_call 97; refine (h1.out _).mono ?_; rintro e w' ⟨rfl, ⟨nd, rfl⟩⟩) | (go_at_call 98; refine (h2.out _).mono ?_; rintro e w' ⟨rfl, ⟨nd, rfl⟩⟩) | (go_at_call 99; refine (h3.out _).mono ?_; rintro e w' ⟨rfl, ⟨nd, rfl⟩⟩) | (go_at_call 101; refine (h4.out _).mono ?_; rintro e w' ⟨rfl, ⟨nd, rfl⟩⟩) | (go_at_call 100; refine (h5.out _).mono ?_; rintro e w' ⟨rfl, ⟨nd, rfl⟩⟩))
      go_ret
      exact ⟨ret_i64 (by simp [kindOf, kS, kF, *] <;> omega), by repeat (first | exact Drawn0.refl _ | apply Drawn0.step)⟩
end Go.Proofs.YtnooikjkjcflbadDoor
