-- PRINTED BY print.sh 35421559b90ae4d0a3588c463048766b98c2df88dd9212a6774a882060cdf62d: not written by this session
import Derived.Test.YtnooikjkjcflbabDoorPDecodeWordsx0
import Derived.Test.YtnooikjkjcflbabDoorPDecodeWordsx5
namespace Go.Proofs.YtnooikjkjcflbabDoor.PDecodeWords
open Go.RowKit Go.Proofs.YtnooikjkjcflbabDoorW.PrintWords Go.Proofs.YtnooikjkjcflbabDoorW.PrintLast Go.Proofs.YtnooikjkjcflbabDoorW.PrintMore
attribute [local go_sem] max2_int min2_int max_two min_two max_three min_three max_four min_four   -- for this text's walks alone
set_option linter.unusedVariables false
set_option linter.unusedSimpArgs false

/-! ### decode_number: function 87 -/
def decode_number.f (a0 : Int) (a1 : Int) : Option (Int) := if a1 = 1 then (some (Go.bits .andNot .u32 a0 4095)) else (if a1 = 2 then ((decode_top.f a0 20).bind fun t151 => ((decode_field.f a0 19 12).bind fun t152 => ((decode_field.f a0 20 20).bind fun t153 => ((decode_field.f a0 30 21).bind fun t154 => (some (Go.bits .or .u32 (Go.bits .or .u32 (Go.bits .or .u32 t151 ((t152 * 4096) % 4294967296)) ((t153 * 2048) % 4294967296)) ((t154 * 2) % 4294967296))))))) else (if a1 = 3 then (some (((wrap32 (a0)) / 1048576) % 4294967296)) else (if a1 = 4 then ((decode_top.f a0 12).bind fun t155 => ((decode_field.f a0 7 7).bind fun t156 => ((decode_field.f a0 30 25).bind fun t157 => ((decode_field.f a0 11 8).bind fun t158 => (some (Go.bits .or .u32 (Go.bits .or .u32 (Go.bits .or .u32 t155 ((t156 * 2048) % 4294967296)) ((t157 * 32) % 4294967296)) ((t158 * 2) % 4294967296))))))) else (if a1 = 5 then ((decode_top.f a0 11).bind fun t159 => ((decode_field.f a0 30 25).bind fun t160 => ((decode_field.f a0 11 7).bind fun t161 => (some (Go.bits .or .u32 (Go.bits .or .u32 t159 ((t160 * 32) % 4294967296)) t161))))) else (if a1 = 7 then ((decode_field.f a0 24 20).bind fun t162 => (some t162)) else (if a1 = 9 then ((decode_field.f a0 19 15).bind fun t163 => (some t163)) else (some 0)))))))
set_option maxHeartbeats 8000000 in
set_option maxRecDepth 100000 in
theorem decode_number.calls (a0 : Int) (a1 : Int) (r : Int) (w : World) (h : decode_number.f a0 a1 = some r) :
    Calls Tryd.prog 87 #[.int .u32 a0, .int .i64 a1] w fun e w' => e = .returned (.int .u32 r) ∧ Drawn0 w w' := by
  have H : (if a1 = 1 then (some (Go.bits .andNot .u32 a0 4095)) else (if a1 = 2 then ((decode_top.f a0 20).bind fun t151 => ((decode_field.f a0 19 12).bind fun t152 => ((decode_field.f a0 20 20).bind fun t153 => ((decode_field.f a0 30 21).bind fun t154 => (some (Go.bits .or .u32 (Go.bits .or .u32 (Go.bits .or .u32 t151 ((t152 * 4096) % 4294967296)) ((t153 * 2048) % 4294967296)) ((t154 * 2) % 4294967296))))))) else (if a1 = 3 then (some (((wrap32 (a0)) / 1048576) % 4294967296)) else (if a1 = 4 then ((decode_top.f a0 12).bind fun t155 => ((decode_field.f a0 7 7).bind fun t156 => ((decode_field.f a0 30 25).bind fun t157 => ((decode_field.f a0 11 8).bind fun t158 => (some (Go.bits .or .u32 (Go.bits .or .u32 (Go.bits .or .u32 t155 ((t156 * 2048) % 4294967296)) ((t157 * 32) % 4294967296)) ((t158 * 2) % 4294967296))))))) else (if a1 = 5 then ((decode_top.f a0 11).bind fun t159 => ((decode_field.f a0 30 25).bind fun t160 => ((decode_field.f a0 11 7).bind fun t161 => (some (Go.bits .or .u32 (Go.bits .or .u32 t159 ((t160 * 32) % 4294967296)) t161))))) else (if a1 = 7 then ((decode_field.f a0 24 20).bind fun t162 => (some t162)) else (if a1 = 9 then ((decode_field.f a0 19 15).bind fun t163 => (some t163)) else (some 0)))))))) = some r := h
  clear h
  by_cases c3 : a1 = 1
  · rw [if_pos c3] at H
    have c3b0 : (a1 == 1) = true := beq_iff_eq.mpr c3
    have c3b1 : (a1 != 1) = false := bne_eq_false_iff_eq.mpr c3
    clear c3
    obtain rfl := Option.some.inj H
    go_enter Tryd.func87, Tryd.ntmps87
    go_wp2
    go_ret
    exact ⟨by first | rfl | (simp; done) | (simp [*]; done), by repeat (first | exact Drawn0.refl _ | apply Drawn0.step)⟩
  · rw [if_neg c3] at H
    have c3b0 : (a1 == 1) = false := beq_eq_false_iff_ne.mpr c3
    have c3b1 : (a1 != 1) = true := bne_iff_ne.mpr c3
    by_cases c4 : a1 = 2
    · rw [if_pos c4] at H
      have c4b0 : (a1 == 2) = true := beq_iff_eq.mpr c4
      have c4b1 : (a1 != 2) = false := bne_eq_false_iff_eq.mpr c4
      clear c4
      replace H := Option.bind_eq_some_iff.mp H
      obtain ⟨t151, A50, H⟩ := H
      replace H : ((decode_field.f a0 19 12).bind fun t152 => ((decode_field.f a0 20 20).bind fun t153 => ((decode_field.f a0 30 21).bind fun t154 => (some (Go.bits .or .u32 (Go.bits .or .u32 (Go.bits .or .u32 t151 ((t152 * 4096) % 4294967296)) ((t153 * 2048) % 4294967296)) ((t154 * 2) % 4294967296)))))) = some r := H
      have A5 := Aside0.mk A50
      clear A50
      replace H := Option.bind_eq_some_iff.mp H
      obtain ⟨t152, A60, H⟩ := H
      replace H : ((decode_field.f a0 20 20).bind fun t153 => ((decode_field.f a0 30 21).bind fun t154 => (some (Go.bits .or .u32 (Go.bits .or .u32 (Go.bits .or .u32 t151 ((t152 * 4096) % 4294967296)) ((t153 * 2048) % 4294967296)) ((t154 * 2) % 4294967296))))) = some r := H
      have A6 := Aside0.mk A60
      clear A60
      replace H := Option.bind_eq_some_iff.mp H
      obtain ⟨t153, A70, H⟩ := H
      replace H : ((decode_field.f a0 30 21).bind fun t154 => (some (Go.bits .or .u32 (Go.bits .or .u32 (Go.bits .or .u32 t151 ((t152 * 4096) % 4294967296)) ((t153 * 2048) % 4294967296)) ((t154 * 2) % 4294967296)))) = some r := H
      have A7 := Aside0.mk A70
      clear A70
      replace H := Option.bind_eq_some_iff.mp H
      obtain ⟨t154, A80, H⟩ := H
      replace H : (some (Go.bits .or .u32 (Go.bits .or .u32 (Go.bits .or .u32 t151 ((t152 * 4096) % 4294967296)) ((t153 * 2048) % 4294967296)) ((t154 * 2) % 4294967296))) = some r := H
      have A8 := Aside0.mk A80
      clear A80
      obtain rfl := Option.some.inj H
      go_enter Tryd.func87, Tryd.ntmps87
      go_wp2_with (first | ((with_reducible refine gate_callee (f := 91) rfl ?_); refine goesL_ (some 13) rfl rfl Tryd.func91 (by kernel_rfl) rfl #[.int .u32 a0, .int .u64 20] rfl (by (try simp only [List.map_toArray, List.map_cons, List.map_nil]); first | done | rfl | (simp only [List.length_drop, List.length_take]; rfl)) ?_; (with_reducible refine (decode_top.calls a0 20 t151 _ A5.out).mono ?_); rintro e w' ⟨rfl, ⟨nd, rfl⟩⟩; refine ⟨_, rfl, ?_⟩) | ((with_reducible refine gate_callee (f := 81) rfl ?_); refine goesL_ (some 15) rfl rfl Tryd.func81 (by kernel_rfl) rfl #[.int .u32 a0, .int .u64 19, .int .u64 12] rfl (by (try simp only [List.map_toArray, List.map_cons, List.map_nil]); first | done | rfl | (simp only [List.length_drop, List.length_take]; rfl)) ?_; (with_reducible refine (decode_field.calls a0 19 12 t152 _ A6.out).mono ?_); rintro e w' ⟨rfl, ⟨nd, rfl⟩⟩; refine ⟨_, rfl, ?_⟩) | ((with_reducible refine gate_callee (f := 81) rfl ?_); refine goesL_ (some 19) rfl rfl Tryd.func81 (by kernel_rfl) rfl #[.int .u32 a0, .int .u64 20, .int .u64 20] rfl (by (try simp only [List.map_toArray, List.map_cons, List.map_nil]); first | done | rfl | (simp only [List.length_drop, List.length_take]; rfl)) ?_; (with_reducible refine (decode_field.calls a0 20 20 t153 _ A7.out).mono ?_); rintro e w' ⟨rfl, ⟨nd, rfl⟩⟩; refine ⟨_, rfl, ?_⟩) | ((with_reducible refine gate_callee (f := 81) rfl ?_); refine goesL_ (some 23) rfl rfl Tryd.func81 (by kernel_rfl) rfl #[.int .u32 a0, .int .u64 30, .int .u64 21] rfl (by (try simp only [List.map_toArray, List.map_cons, List.map_nil]); first | done | rfl | (simp only [List.length_drop, List.length_take]; rfl)) ?_; (with_reducible refine (decode_field.calls a0 30 21 t154 _ A8.out).mono ?_); rintro e w' ⟨rfl, ⟨nd, rfl⟩⟩; refine ⟨_, rfl, ?_⟩))
      go_ret
      exact ⟨by first | rfl | (simp; done) | (simp [*]; done), by repeat (first | exact Drawn0.refl _ | apply Drawn0.step)⟩
    · rw [if_neg c4] at H
      have c4b0 : (a1 == 2) = false := beq_eq_false_iff_ne.mpr c4
      have c4b1 : (a1 != 2) = true := bne_iff_ne.mpr c4
      by_cases c9 : a1 = 3
      · rw [if_pos c9] at H
        have c9b0 : (a1 == 3) = true := beq_iff_eq.mpr c9
        have c9b1 : (a1 != 3) = false := bne_eq_false_iff_eq.mpr c9
        clear c9
        obtain rfl := Option.some.inj H
        go_enter Tryd.func87, Tryd.ntmps87
        go_wp2
        go_ret
        exact ⟨by first | rfl | (simp; done) | (simp [*]; done), by repeat (first | exact Drawn0.refl _ | apply Drawn0.step)⟩
      · rw [if_neg c9] at H
        have c9b0 : (a1 == 3) = false := beq_eq_false_iff_ne.mpr c9
        have c9b1 : (a1 != 3) = true := bne_iff_ne.mpr c9
        by_cases c10 : a1 = 4
        · rw [if_pos c10] at H
          have c10b0 : (a1 == 4) = true := beq_iff_eq.mpr c10
          have c10b1 : (a1 != 4) = false := bne_eq_false_iff_eq.mpr c10
          clear c10
          replace H := Option.bind_eq_some_iff.mp H
          obtain ⟨t155, A110, H⟩ := H
          replace H : ((decode_field.f a0 7 7).bind fun t156 => ((decode_field.f a0 30 25).bind fun t157 => ((decode_field.f a0 11 8).bind fun t158 => (some (Go.bits .or .u32 (Go.bits .or .u32 (Go.bits .or .u32 t155 ((t156 * 2048) % 4294967296)) ((t157 * 32) % 4294967296)) ((t158 * 2) % 4294967296)))))) = some r := H
          have A11 := Aside0.mk A110
          clear A110
          replace H := Option.bind_eq_some_iff.mp H
          obtain ⟨t156, A120, H⟩ := H
          replace H : ((decode_field.f a0 30 25).bind fun t157 => ((decode_field.f a0 11 8).bind fun t158 => (some (Go.bits .or .u32 (Go.bits .or .u32 (Go.bits .or .u32 t155 ((t156 * 2048) % 4294967296)) ((t157 * 32) % 4294967296)) ((t158 * 2) % 4294967296))))) = some r := H
          have A12 := Aside0.mk A120
          clear A120
          replace H := Option.bind_eq_some_iff.mp H
          obtain ⟨t157, A130, H⟩ := H
          replace H : ((decode_field.f a0 11 8).bind fun t158 => (some (Go.bits .or .u32 (Go.bits .or .u32 (Go.bits .or .u32 t155 ((t156 * 2048) % 4294967296)) ((t157 * 32) % 4294967296)) ((t158 * 2) % 4294967296)))) = some r := H
          have A13 := Aside0.mk A130
          clear A130
          replace H := Option.bind_eq_some_iff.mp H
          obtain ⟨t158, A140, H⟩ := H
          replace H : (some (Go.bits .or .u32 (Go.bits .or .u32 (Go.bits .or .u32 t155 ((t156 * 2048) % 4294967296)) ((t157 * 32) % 4294967296)) ((t158 * 2) % 4294967296))) = some r := H
          have A14 := Aside0.mk A140
          clear A140
          obtain rfl := Option.some.inj H
          go_enter Tryd.func87, Tryd.ntmps87
          go_wp2_with (first | ((with_reducible refine gate_callee (f := 91) rfl ?_); refine goesL_ (some 35) rfl rfl Tryd.func91 (by kernel_rfl) rfl #[.int .u32 a0, .int .u64 12] rfl (by (try simp only [List.map_toArray, List.map_cons, List.map_nil]); first | done | rfl | (simp only [List.length_drop, List.length_take]; rfl)) ?_; (with_reducible refine (decode_top.calls a0 12 t155 _ A11.out).mono ?_); rintro e w' ⟨rfl, ⟨nd, rfl⟩⟩; refine ⟨_, rfl, ?_⟩) | ((with_reducible refine gate_callee (f := 81) rfl ?_); refine goesL_ (some 37) rfl rfl Tryd.func81 (by kernel_rfl) rfl #[.int .u32 a0, .int .u64 7, .int .u64 7] rfl (by (try simp only [List.map_toArray, List.map_cons, List.map_nil]); first | done | rfl | (simp only [List.length_drop, List.length_take]; rfl)) ?_; (with_reducible refine (decode_field.calls a0 7 7 t156 _ A12.out).mono ?_); rintro e w' ⟨rfl, ⟨nd, rfl⟩⟩; refine ⟨_, rfl, ?_⟩) | ((with_reducible refine gate_callee (f := 81) rfl ?_); refine goesL_ (some 41) rfl rfl Tryd.func81 (by kernel_rfl) rfl #[.int .u32 a0, .int .u64 30, .int .u64 25] rfl (by (try simp only [List.map_toArray, List.map_cons, List.map_nil]); first | done | rfl | (simp only [List.length_drop, List.length_take]; rfl)) ?_; (with_reducible refine (decode_field.calls a0 30 25 t157 _ A13.out).mono ?_); rintro e w' ⟨rfl, ⟨nd, rfl⟩⟩; refine ⟨_, rfl, ?_⟩) | ((with_reducible refine gate_callee (f := 81) rfl ?_); refine goesL_ (some 45) rfl rfl Tryd.func81 (by kernel_rfl) rfl #[.int .u32 a0, .int .u64 11, .int .u64 8] rfl (by (try simp only [List.map_toArray, List.map_cons, List.map_nil]); first | done | rfl | (simp only [List.length_drop, List.length_take]; rfl)) ?_; (with_reducible refine (decode_field.calls a0 11 8 t158 _ A14.out).mono ?_); rintro e w' ⟨rfl, ⟨nd, rfl⟩⟩; refine ⟨_, rfl, ?_⟩))
          go_ret
          exact ⟨by first | rfl | (simp; done) | (simp [*]; done), by repeat (first | exact Drawn0.refl _ | apply Drawn0.step)⟩
        · rw [if_neg c10] at H
          have c10b0 : (a1 == 4) = false := beq_eq_false_iff_ne.mpr c10
          have c10b1 : (a1 != 4) = true := bne_iff_ne.mpr c10
          by_cases c15 : a1 = 5
          · rw [if_pos c15] at H
            have c15b0 : (a1 == 5) = true := beq_iff_eq.mpr c15
            have c15b1 : (a1 != 5) = false := bne_eq_false_iff_eq.mpr c15
            clear c15
            replace H := Option.bind_eq_some_iff.mp H
            obtain ⟨t159, A160, H⟩ := H
            replace H : ((decode_field.f a0 30 25).bind fun t160 => ((decode_field.f a0 11 7).bind fun t161 => (some (Go.bits .or .u32 (Go.bits .or .u32 t159 ((t160 * 32) % 4294967296)) t161)))) = some r := H
            have A16 := Aside0.mk A160
            clear A160
            replace H := Option.bind_eq_some_iff.mp H
            obtain ⟨t160, A170, H⟩ := H
            replace H : ((decode_field.f a0 11 7).bind fun t161 => (some (Go.bits .or .u32 (Go.bits .or .u32 t159 ((t160 * 32) % 4294967296)) t161))) = some r := H
            have A17 := Aside0.mk A170
            clear A170
            replace H := Option.bind_eq_some_iff.mp H
            obtain ⟨t161, A180, H⟩ := H
            replace H : (some (Go.bits .or .u32 (Go.bits .or .u32 t159 ((t160 * 32) % 4294967296)) t161)) = some r := H
            have A18 := Aside0.mk A180
            clear A180
            obtain rfl := Option.some.inj H
            go_enter Tryd.func87, Tryd.ntmps87
            go_wp2_with (first | ((with_reducible refine gate_callee (f := 91) rfl ?_); refine goesL_ (some 51) rfl rfl Tryd.func91 (by kernel_rfl) rfl #[.int .u32 a0, .int .u64 11] rfl (by (try simp only [List.map_toArray, List.map_cons, List.map_nil]); first | done | rfl | (simp only [List.length_drop, List.length_take]; rfl)) ?_; (with_reducible refine (decode_top.calls a0 11 t159 _ A16.out).mono ?_); rintro e w' ⟨rfl, ⟨nd, rfl⟩⟩; refine ⟨_, rfl, ?_⟩) | ((with_reducible refine gate_callee (f := 81) rfl ?_); refine goesL_ (some 53) rfl rfl Tryd.func81 (by kernel_rfl) rfl #[.int .u32 a0, .int .u64 30, .int .u64 25] rfl (by (try simp only [List.map_toArray, List.map_cons, List.map_nil]); first | done | rfl | (simp only [List.length_drop, List.length_take]; rfl)) ?_; (with_reducible refine (decode_field.calls a0 30 25 t160 _ A17.out).mono ?_); rintro e w' ⟨rfl, ⟨nd, rfl⟩⟩; refine ⟨_, rfl, ?_⟩) | ((with_reducible refine gate_callee (f := 81) rfl ?_); refine goesL_ (some 57) rfl rfl Tryd.func81 (by kernel_rfl) rfl #[.int .u32 a0, .int .u64 11, .int .u64 7] rfl (by (try simp only [List.map_toArray, List.map_cons, List.map_nil]); first | done | rfl | (simp only [List.length_drop, List.length_take]; rfl)) ?_; (with_reducible refine (decode_field.calls a0 11 7 t161 _ A18.out).mono ?_); rintro e w' ⟨rfl, ⟨nd, rfl⟩⟩; refine ⟨_, rfl, ?_⟩))
            go_ret
            exact ⟨by first | rfl | (simp; done) | (simp [*]; done), by repeat (first | exact Drawn0.refl _ | apply Drawn0.step)⟩
          · rw [if_neg c15] at H
            have c15b0 : (a1 == 5) = false := beq_eq_false_iff_ne.mpr c15
            have c15b1 : (a1 != 5) = true := bne_iff_ne.mpr c15
            by_cases c19 : a1 = 7
            · rw [if_pos c19] at H
              have c19b0 : (a1 == 7) = true := beq_iff_eq.mpr c19
              have c19b1 : (a1 != 7) = false := bne_eq_false_iff_eq.mpr c19
              clear c19
              replace H := Option.bind_eq_some_iff.mp H
              obtain ⟨t162, A200, H⟩ := H
              replace H : (some t162) = some r := H
              have A20 := Aside0.mk A200
              clear A200
              obtain rfl := Option.some.inj H
              go_enter Tryd.func87, Tryd.ntmps87
              go_wp2_with (first | ((with_reducible refine gate_callee (f := 81) rfl ?_); refine goesL_ (some 62) rfl rfl Tryd.func81 (by kernel_rfl) rfl #[.int .u32 a0, .int .u64 24, .int .u64 20] rfl (by (try simp only [List.map_toArray, List.map_cons, List.map_nil]); first | done | rfl | (simp only [List.length_drop, List.length_take]; rfl)) ?_; (with_reducible refine (decode_field.calls a0 24 20 t162 _ A20.out).mono ?_); rintro e w' ⟨rfl, ⟨nd, rfl⟩⟩; refine ⟨_, rfl, ?_⟩))
              go_ret
              exact ⟨by first | rfl | (simp; done) | (simp [*]; done), by repeat (first | exact Drawn0.refl _ | apply Drawn0.step)⟩
            · rw [if_neg c19] at H
              have c19b0 : (a1 == 7) = false := beq_eq_false_iff_ne.mpr c19
              have c19b1 : (a1 != 7) = true := bne_iff_ne.mpr c19
              by_cases c21 : a1 = 9
              · rw [if_pos c21] at H
                have c21b0 : (a1 == 9) = true := beq_iff_eq.mpr c21
                have c21b1 : (a1 != 9) = false := bne_eq_false_iff_eq.mpr c21
                clear c21
                replace H := Option.bind_eq_some_iff.mp H
                obtain ⟨t163, A220, H⟩ := H
                replace H : (some t163) = some r := H
                have A22 := Aside0.mk A220
                clear A220
                obtain rfl := Option.some.inj H
                go_enter Tryd.func87, Tryd.ntmps87
                go_wp2_with (first | ((with_reducible refine gate_callee (f := 81) rfl ?_); refine goesL_ (some 66) rfl rfl Tryd.func81 (by kernel_rfl) rfl #[.int .u32 a0, .int .u64 19, .int .u64 15] rfl (by (try simp only [List.map_toArray, List.map_cons, List.map_nil]); first | done | rfl | (simp only [List.length_drop, List.length_take]; rfl)) ?_; (with_reducible refine (decode_field.calls a0 19 15 t163 _ A22.out).mono ?_); rintro e w' ⟨rfl, ⟨nd, rfl⟩⟩; refine ⟨_, rfl, ?_⟩))
                go_ret
                exact ⟨by first | rfl | (simp; done) | (simp [*]; done), by repeat (first | exact Drawn0.refl _ | apply Drawn0.step)⟩
              · rw [if_neg c21] at H
                have c21b0 : (a1 == 9) = false := beq_eq_false_iff_ne.mpr c21
                have c21b1 : (a1 != 9) = true := bne_iff_ne.mpr c21
                obtain rfl := Option.some.inj H
                go_enter Tryd.func87, Tryd.ntmps87
                go_wp2
                go_ret
                exact ⟨by first | rfl | (simp; done) | (simp [*]; done), by repeat (first | exact Drawn0.refl _ | apply Drawn0.step)⟩

-- NOT PRINTED: function 71 (decode_laid)

-- NOT PRINTED: function 41 (decode_Decode)

-- NOT PRINTED: function 42 (decode_Legal)

-- NOT PRINTED: function 43 (mimesislaw03_awake)

-- NOT PRINTED: function 9 (mimesislaw03_DecodeWords)

end Go.Proofs.YtnooikjkjcflbabDoor.PDecodeWords
