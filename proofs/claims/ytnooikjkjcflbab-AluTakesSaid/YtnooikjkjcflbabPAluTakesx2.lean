-- PRINTED BY print.sh 35421559b90ae4d0a3588c463048766b98c2df88dd9212a6774a882060cdf62d: not written by this session
import Derived.Test.YtnooikjkjcflbabPAluTakesx0
import Derived.Test.YtnooikjkjcflbabPAluTakesx1
namespace Go.Proofs.Ytnooikjkjcflbab.PAluTakes
open Go.RowKit Go.Proofs.YtnooikjkjcflbabW.PrintWords Go.Proofs.YtnooikjkjcflbabW.PrintLast Go.Proofs.YtnooikjkjcflbabW.PrintMore
attribute [local go_sem] max2_int min2_int max_two min_two max_three min_three max_four min_four   -- for this text's walks alone
set_option linter.unusedVariables false
set_option linter.unusedSimpArgs false

/-! ### mimesislaw07_AluTakes: function 4 -/
mutual
def mimesislaw07_AluTakes.j0 : Nat → Int → Int → Int → Bool → Int → Bool → Option (Bool)
  | 0, _, _, _, _, _, _ => none
  | k + 1, x0, x1, x2, x7, x8, x24 => if x24 = true then (if x8 = 9 then (if x7 = true then (some false) else ((mimesislaw07_awake.f).bind fun t114 => (some t114))) else (some false)) else (if x0 = 6 then (mimesislaw07_AluTakes.j1 k x0 x1 x2 x7 x8 (wrap64 (x0 + 1)) true) else (if x0 = 8 then (mimesislaw07_AluTakes.j1 k x0 x1 x2 x7 x8 (wrap64 (x0 + 1)) true) else (mimesislaw07_AluTakes.j1 k x0 x1 x2 x7 x8 (wrap64 (x0 + 1)) (x0 == 10))))
def mimesislaw07_AluTakes.j1 : Nat → Int → Int → Int → Bool → Int → Int → Bool → Option (Bool)
  | 0, _, _, _, _, _, _, _ => none
  | k + 1, x0, x1, x2, x7, x8, x9, x45 => if x45 = true then ((alu_Taken.f (wrap64 (x0 - 1)) x1 x2).bind fun bt115 => (if x8 = 0 then (if bt115.2 = 0 then ((mimesisref07_Taken.f x0 x1 x2).bind fun t117 => (if (x7 == t117) = true then (if (x7 != bt115.1) = true then ((mimesislaw07_awake.f).bind fun t118 => (some t118)) else (some false)) else (some false))) else (some false)) else (some false))) else ((alu_Taken.f x9 x1 x2).bind fun bt119 => (if x8 = 0 then (if bt119.2 = 0 then ((mimesisref07_Taken.f x0 x1 x2).bind fun t121 => (if (x7 == t121) = true then (if (x7 != bt119.1) = true then ((mimesislaw07_awake.f).bind fun t122 => (some t122)) else (some false)) else (some false))) else (some false)) else (some false)))
end
def mimesislaw07_AluTakes.f (k : Nat) (a0 : Int) (a1 : Int) (a2 : Int) : Option (Bool) := (alu_Taken.f a0 a1 a2).bind fun bt112 => (if a0 < 5 then (mimesislaw07_AluTakes.j0 k a0 a1 a2 bt112.1 bt112.2 true) else (mimesislaw07_AluTakes.j0 k a0 a1 a2 bt112.1 bt112.2 (decide (a0 > 10))))
theorem mimesislaw07_AluTakes.mono_l : ∀ k, (∀ y0 y1 y2 y3 y4 y5, LeO (mimesislaw07_AluTakes.j0 k y0 y1 y2 y3 y4 y5) (mimesislaw07_AluTakes.j0 (k + 1) y0 y1 y2 y3 y4 y5)) ∧ (∀ y0 y1 y2 y3 y4 y5 y6, LeO (mimesislaw07_AluTakes.j1 k y0 y1 y2 y3 y4 y5 y6) (mimesislaw07_AluTakes.j1 (k + 1) y0 y1 y2 y3 y4 y5 y6))
  | 0 => ⟨fun _ _ _ _ _ _ r h => by simp [mimesislaw07_AluTakes.j0] at h, fun _ _ _ _ _ _ _ r h => by simp [mimesislaw07_AluTakes.j1] at h⟩
  | k + 1 => by
    obtain ⟨ih0, ih1⟩ := mimesislaw07_AluTakes.mono_l k
    refine ⟨?_, ?_⟩
    · intro y0 y1 y2 y3 y4 y5
      unfold mimesislaw07_AluTakes.j0
      repeat' first
      | (with_reducible exact ih0 _ _ _ _ _ _)
      | (with_reducible exact ih1 _ _ _ _ _ _ _)
      | (with_reducible exact LeO.refl _)
      | (with_reducible exact LeO.none _)
      | (with_reducible refine LeO.ite ?_ ?_)
      | (with_reducible refine LeO.bind ?_ (fun _ => ?_))
      | exact ih0 _ _ _ _ _ _
      | exact ih1 _ _ _ _ _ _ _
      | exact LeO.none _
      | refine LeO.ite ?_ ?_
      | refine LeO.bind ?_ (fun _ => ?_)
    · intro y0 y1 y2 y3 y4 y5 y6
      unfold mimesislaw07_AluTakes.j1
      repeat' first
      | (with_reducible exact ih0 _ _ _ _ _ _)
      | (with_reducible exact ih1 _ _ _ _ _ _ _)
      | (with_reducible exact LeO.refl _)
      | (with_reducible exact LeO.none _)
      | (with_reducible refine LeO.ite ?_ ?_)
      | (with_reducible refine LeO.bind ?_ (fun _ => ?_))
      | exact ih0 _ _ _ _ _ _
      | exact ih1 _ _ _ _ _ _ _
      | exact LeO.none _
      | refine LeO.ite ?_ ?_
      | refine LeO.bind ?_ (fun _ => ?_)
theorem mimesislaw07_AluTakes.mono : ∀ a0 a1 a2 k, LeO (mimesislaw07_AluTakes.f k a0 a1 a2) (mimesislaw07_AluTakes.f (k + 1) a0 a1 a2) := by
  intro a0 a1 a2 k
  obtain ⟨ih0, ih1⟩ := mimesislaw07_AluTakes.mono_l k
  unfold mimesislaw07_AluTakes.f
  repeat' first
      | (with_reducible exact ih0 _ _ _ _ _ _)
      | (with_reducible exact ih1 _ _ _ _ _ _ _)
      | (with_reducible exact LeO.refl _)
      | (with_reducible exact LeO.none _)
      | (with_reducible refine LeO.ite ?_ ?_)
      | (with_reducible refine LeO.bind ?_ (fun _ => ?_))
      | exact ih0 _ _ _ _ _ _
      | exact ih1 _ _ _ _ _ _ _
      | exact LeO.none _
      | refine LeO.ite ?_ ?_
      | refine LeO.bind ?_ (fun _ => ?_)
set_option maxHeartbeats 8000000 in
set_option maxRecDepth 100000 in
theorem mimesislaw07_AluTakes.calls (k : Nat) (a0 : Int) (a1 : Int) (a2 : Int) (r : Bool) (w : World) (h : mimesislaw07_AluTakes.f k a0 a1 a2 = some r) :
    Calls Try.prog 4 #[.int .i64 a0, .int .u32 a1, .int .u32 a2] w fun e w' => e = .returned (.bool r) ∧ Drawn0 w w' := by
  have H : ((alu_Taken.f a0 a1 a2).bind fun bt112 => (if a0 < 5 then (mimesislaw07_AluTakes.j0 k a0 a1 a2 bt112.1 bt112.2 true) else (mimesislaw07_AluTakes.j0 k a0 a1 a2 bt112.1 bt112.2 (decide (a0 > 10))))) = some r := h
  clear h
  replace H := Option.bind_eq_some_iff.mp H
  obtain ⟨⟨t112, t113⟩, A40, H⟩ := H
  replace H : (if a0 < 5 then (mimesislaw07_AluTakes.j0 k a0 a1 a2 t112 t113 true) else (mimesislaw07_AluTakes.j0 k a0 a1 a2 t112 t113 (decide (a0 > 10)))) = some r := H
  have A4 := Aside0.mk A40
  clear A40
  have HC5 := Aside0.mk H
  clear H
  go_enter Try.func4, Try.ntmps4
  go_upto_region 2 with (first | ((with_reducible refine gate_callee (f := 12) rfl ?_); refine goesL_ (some 16) rfl rfl Try.func12 (by kernel_rfl) rfl #[.int .i64 a0, .int .u32 a1, .int .u32 a2] rfl (by (try simp only [List.map_toArray, List.map_cons, List.map_nil]); first | done | rfl | (simp only [List.length_drop, List.length_take]; rfl)) ?_; (with_reducible refine (alu_Taken.calls a0 a1 a2 t112 t113 _ A4.out).mono ?_); rintro e w' ⟨rfl, ⟨nd, rfl⟩⟩; refine ⟨_, rfl, ?_⟩))
  (try simp only [Act.put, List.setIfInBounds_toArray, List.set_cons_zero, List.set_cons_succ])
  go_cut [24] (fun v24 wc => ∃ (kq : Nat) (x24_4 : Bool), v24 = .bool x24_4 ∧ Aside0 (mimesislaw07_AluTakes.j0 kq a0 a1 a2 t112 t113 x24_4 = some r) ∧ Aside0 (kq ≤ k) ∧ Drawn0 w wc)
  case first =>
    have H := HC5.out
    clear HC5
    by_cases c6 : a0 < 5
    · rw [if_pos c6] at H
      have c6b0 : decide (a0 < 5) = true := decide_eq_true c6
      clear c6
      (first | rw [c6b0] | (simp only [i64_w, i32_w]; rw [c6b0]) | skip)
      have H' := Aside0.mk H
      clear H
      go_wp2
      go_meet
      case rel => exact ⟨_, (true), (by first | rfl | (simp; done) | (simp [*]; done)), H', ⟨by first | omega | exact Nat.le_refl _⟩, by repeat (first | exact Drawn0.refl _ | apply Drawn0.step)⟩
    · rw [if_neg c6] at H
      have c6b0 : decide (a0 < 5) = false := decide_eq_false c6
      clear c6
      (first | rw [c6b0] | (simp only [i64_w, i32_w]; rw [c6b0]) | skip)
      have H' := Aside0.mk H
      clear H
      go_wp2
      go_meet
      case rel => exact ⟨_, (decide (a0 > 10)), (by first | rfl | (simp; done) | (simp [*]; done)), H', ⟨by first | omega | exact Nat.le_refl _⟩, by repeat (first | exact Drawn0.refl _ | apply Drawn0.step)⟩
  case rest =>
    clear HC5
    try clear c1
    try clear p2
    try clear c4
    try clear c6
    try clear c6b0
    obtain ⟨kq, x24_4, rfl, HA, HJ4, ⟨mc4, rfl⟩⟩ := hcut
    cases kq with
    | zero => exact absurd HA.out (by simp [mimesislaw07_AluTakes.j0])
    | succ kj4 =>
      have H := HA.out
      clear HA
      simp only [mimesislaw07_AluTakes.j0] at H
      by_cases c7 : x24_4 = true
      · subst c7
        have H1 : (if t113 = 9 then (if t112 = true then (some false) else ((mimesislaw07_awake.f).bind fun t114 => (some t114))) else (some false)) = some r := by rw [if_pos rfl] at H; exact H
        clear H
        have H := H1
        clear H1
        by_cases c8 : t113 = 9
        · rw [if_pos c8] at H
          have c8b0 : (t113 == 9) = true := beq_iff_eq.mpr c8
          have c8b1 : (t113 != 9) = false := bne_eq_false_iff_eq.mpr c8
          clear c8
          by_cases c9 : t112 = true
          · subst c9
            have H1 : (some false) = some r := by rw [if_pos rfl] at H; exact H
            clear H
            have H := H1
            clear H1
            obtain rfl := Option.some.inj H
            go_wp2
            go_ret
            exact ⟨by first | rfl | (simp; done) | (simp [*]; done), by repeat (first | exact Drawn0.refl _ | apply Drawn0.step)⟩
          · replace c9 := Bool.eq_false_iff.mpr c9
            subst c9
            have H1 : ((mimesislaw07_awake.f).bind fun t114 => (some t114)) = some r := by rw [if_neg (show ¬ (false = true) by decide)] at H; exact H
            clear H
            have H := H1
            clear H1
            replace H := Option.bind_eq_some_iff.mp H
            obtain ⟨t114, A100, H⟩ := H
            replace H : (some t114) = some r := H
            have A10 := Aside0.mk A100
            clear A100
            obtain rfl := Option.some.inj H
            go_wp2_with (first | (go_at_call 10; (with_reducible refine (mimesislaw07_awake.calls  t114 _ A10.out).mono ?_); rintro e w' ⟨rfl, ⟨nd, rfl⟩⟩))
            go_ret
            exact ⟨by first | rfl | (simp; done) | (simp [*]; done), by repeat (first | exact Drawn0.refl _ | apply Drawn0.step)⟩
        · rw [if_neg c8] at H
          have c8b0 : (t113 == 9) = false := beq_eq_false_iff_ne.mpr c8
          have c8b1 : (t113 != 9) = true := bne_iff_ne.mpr c8
          obtain rfl := Option.some.inj H
          go_wp2
          go_ret
          exact ⟨by first | rfl | (simp; done) | (simp [*]; done), by repeat (first | exact Drawn0.refl _ | apply Drawn0.step)⟩
      · replace c7 := Bool.eq_false_iff.mpr c7
        subst c7
        have H1 : (if a0 = 6 then (mimesislaw07_AluTakes.j1 kj4 a0 a1 a2 t112 t113 (wrap64 (a0 + 1)) true) else (if a0 = 8 then (mimesislaw07_AluTakes.j1 kj4 a0 a1 a2 t112 t113 (wrap64 (a0 + 1)) true) else (mimesislaw07_AluTakes.j1 kj4 a0 a1 a2 t112 t113 (wrap64 (a0 + 1)) (a0 == 10)))) = some r := by rw [if_neg (show ¬ (false = true) by decide)] at H; exact H
        clear H
        have H := H1
        clear H1
        have HC11 := Aside0.mk H
        clear H
        go_upto_region 5 with (fail)
        go_cut [45] (fun v45 wc => ∃ (kq : Nat) (x45_10 : Bool), v45 = .bool x45_10 ∧ Aside0 (mimesislaw07_AluTakes.j1 kq a0 a1 a2 t112 t113 (wrap64 (a0 + 1)) x45_10 = some r) ∧ Aside0 (kq ≤ kj4) ∧ Drawn0 w wc)
        case first =>
          have H := HC11.out
          clear HC11
          by_cases c12 : a0 = 6
          · rw [if_pos c12] at H
            have c12b0 : (a0 == 6) = true := beq_iff_eq.mpr c12
            have c12b1 : (a0 != 6) = false := bne_eq_false_iff_eq.mpr c12
            clear c12
            (first | rw [c12b0] | (simp only [i64_w, i32_w]; rw [c12b0]) | skip)
            have H' := Aside0.mk H
            clear H
            go_wp2
            go_meet
            case rel => exact ⟨_, (true), (by first | rfl | (simp; done) | (simp [*]; done)), H', ⟨by have := HJ4.out; first | omega | exact Nat.le_refl _⟩, by repeat (first | exact Drawn0.refl _ | apply Drawn0.step)⟩
          · rw [if_neg c12] at H
            have c12b0 : (a0 == 6) = false := beq_eq_false_iff_ne.mpr c12
            have c12b1 : (a0 != 6) = true := bne_iff_ne.mpr c12
            (first | rw [c12b0] | (simp only [i64_w, i32_w]; rw [c12b0]) | skip)
            by_cases c13 : a0 = 8
            · rw [if_pos c13] at H
              have c13b0 : (a0 == 8) = true := beq_iff_eq.mpr c13
              have c13b1 : (a0 != 8) = false := bne_eq_false_iff_eq.mpr c13
              clear c13
              have H' := Aside0.mk H
              clear H
              go_wp2
              go_meet
              case rel => exact ⟨_, (true), (by first | rfl | (simp; done) | (simp [*]; done)), H', ⟨by have := HJ4.out; first | omega | exact Nat.le_refl _⟩, by repeat (first | exact Drawn0.refl _ | apply Drawn0.step)⟩
            · rw [if_neg c13] at H
              have c13b0 : (a0 == 8) = false := beq_eq_false_iff_ne.mpr c13
              have c13b1 : (a0 != 8) = true := bne_iff_ne.mpr c13
              have H' := Aside0.mk H
              clear H
              go_wp2
              go_meet
              case rel => exact ⟨_, ((a0 == 10)), (by first | rfl | (simp; done) | (simp [*]; done)), H', ⟨by have := HJ4.out; first | omega | exact Nat.le_refl _⟩, by repeat (first | exact Drawn0.refl _ | apply Drawn0.step)⟩
        case rest =>
          clear HC11
          try clear c1
          try clear p2
          try clear c4
          try clear c6
          try clear c6b0
          try clear p6
          try clear c7
          try clear c8
          try clear c8b0
          try clear c8b1
          try clear c9
          try clear c12
          try clear c12b0
          try clear c12b1
          try clear c13
          try clear c13b0
          try clear c13b1
          try clear p2
          obtain ⟨kq, x45_10, rfl, HA, HJ10, ⟨mc10, rfl⟩⟩ := hcut
          cases kq with
          | zero => exact absurd HA.out (by simp [mimesislaw07_AluTakes.j1])
          | succ kj10 =>
            have H := HA.out
            clear HA
            simp only [mimesislaw07_AluTakes.j1] at H
            by_cases c14 : x45_10 = true
            · subst c14
              have H1 : ((alu_Taken.f (wrap64 (a0 - 1)) a1 a2).bind fun bt115 => (if t113 = 0 then (if bt115.2 = 0 then ((mimesisref07_Taken.f a0 a1 a2).bind fun t117 => (if (t112 == t117) = true then (if (t112 != bt115.1) = true then ((mimesislaw07_awake.f).bind fun t118 => (some t118)) else (some false)) else (some false))) else (some false)) else (some false))) = some r := by rw [if_pos rfl] at H; exact H
              clear H
              have H := H1
              clear H1
              replace H := Option.bind_eq_some_iff.mp H
              obtain ⟨⟨t115, t116⟩, A150, H⟩ := H
              replace H : (if t113 = 0 then (if t116 = 0 then ((mimesisref07_Taken.f a0 a1 a2).bind fun t117 => (if (t112 == t117) = true then (if (t112 != t115) = true then ((mimesislaw07_awake.f).bind fun t118 => (some t118)) else (some false)) else (some false))) else (some false)) else (some false)) = some r := H
              have A15 := Aside0.mk A150
              clear A150
              by_cases c16 : t113 = 0
              · rw [if_pos c16] at H
                have c16b0 : (t113 == 0) = true := beq_iff_eq.mpr c16
                have c16b1 : (t113 != 0) = false := bne_eq_false_iff_eq.mpr c16
                clear c16
                by_cases c17 : t116 = 0
                · rw [if_pos c17] at H
                  have c17b0 : (t116 == 0) = true := beq_iff_eq.mpr c17
                  have c17b1 : (t116 != 0) = false := bne_eq_false_iff_eq.mpr c17
                  clear c17
                  replace H := Option.bind_eq_some_iff.mp H
                  obtain ⟨t117, A180, H⟩ := H
                  replace H : (if (t112 == t117) = true then (if (t112 != t115) = true then ((mimesislaw07_awake.f).bind fun t118 => (some t118)) else (some false)) else (some false)) = some r := H
                  have A18 := Aside0.mk A180
                  clear A180
                  by_cases c19 : (t112 == t117) = true
                  · rw [if_pos c19] at H
                    have c19b0 : (t112 == t117) = true := c19
                    (try (have c19b1 : decide (t112 = t117) = true := by simpa using c19))
                    (try (have c19b2 : (t112 == t117) = true := by simpa using c19))
                    clear c19
                    by_cases c20 : (t112 != t115) = true
                    · rw [if_pos c20] at H
                      have c20b0 : (t112 != t115) = true := c20
                      (try (have c20b1 : decide (t112 = t115) = false := by simpa using c20))
                      (try (have c20b2 : (t112 == t115) = false := by simpa using c20))
                      (try (have c20b3 : ¬ (t112 = t115) := by simpa using c20))
                      clear c20
                      replace H := Option.bind_eq_some_iff.mp H
                      obtain ⟨t118, A210, H⟩ := H
                      replace H : (some t118) = some r := H
                      have A21 := Aside0.mk A210
                      clear A210
                      obtain rfl := Option.some.inj H
                      go_wp2_with (first | ((with_reducible refine gate_callee (f := 12) rfl ?_); refine goesL_ (some 52) rfl rfl Try.func12 (by kernel_rfl) rfl #[.int .i64 (wrap64 (a0 - 1)), .int .u32 a1, .int .u32 a2] rfl (by (try simp only [List.map_toArray, List.map_cons, List.map_nil]); first | done | rfl | (simp only [List.length_drop, List.length_take]; rfl)) ?_; (with_reducible refine (alu_Taken.calls (wrap64 (a0 - 1)) a1 a2 t115 t116 _ A15.out).mono ?_); rintro e w' ⟨rfl, ⟨nd, rfl⟩⟩; refine ⟨_, rfl, ?_⟩) | (go_at_call 13; (with_reducible refine (mimesisref07_Taken.calls a0 a1 a2 t117 _ A18.out).mono ?_); rintro e w' ⟨rfl, ⟨nd, rfl⟩⟩) | (go_at_call 10; (with_reducible refine (mimesislaw07_awake.calls  t118 _ A21.out).mono ?_); rintro e w' ⟨rfl, ⟨nd, rfl⟩⟩))
                      go_ret
                      exact ⟨by first | rfl | (simp; done) | (simp [*]; done), by repeat (first | exact Drawn0.refl _ | apply Drawn0.step)⟩
                    · rw [if_neg c20] at H
                      have c20b0 : (t112 != t115) = false := by simpa using c20
                      (try (have c20b1 : decide (t112 = t115) = true := by simpa using c20))
                      (try (have c20b2 : (t112 == t115) = true := by simpa using c20))
                      clear c20
                      obtain rfl := Option.some.inj H
                      go_wp2_with (first | ((with_reducible refine gate_callee (f := 12) rfl ?_); refine goesL_ (some 52) rfl rfl Try.func12 (by kernel_rfl) rfl #[.int .i64 (wrap64 (a0 - 1)), .int .u32 a1, .int .u32 a2] rfl (by (try simp only [List.map_toArray, List.map_cons, List.map_nil]); first | done | rfl | (simp only [List.length_drop, List.length_take]; rfl)) ?_; (with_reducible refine (alu_Taken.calls (wrap64 (a0 - 1)) a1 a2 t115 t116 _ A15.out).mono ?_); rintro e w' ⟨rfl, ⟨nd, rfl⟩⟩; refine ⟨_, rfl, ?_⟩) | (go_at_call 13; (with_reducible refine (mimesisref07_Taken.calls a0 a1 a2 t117 _ A18.out).mono ?_); rintro e w' ⟨rfl, ⟨nd, rfl⟩⟩))
                      go_ret
                      exact ⟨by first | rfl | (simp; done) | (simp [*]; done), by repeat (first | exact Drawn0.refl _ | apply Drawn0.step)⟩
                  · rw [if_neg c19] at H
                    have c19b0 : (t112 == t117) = false := by simpa using c19
                    (try (have c19b1 : decide (t112 = t117) = false := by simpa using c19))
                    (try (have c19b2 : (t112 == t117) = false := by simpa using c19))
                    (try (have c19b3 : ¬ (t112 = t117) := by simpa using c19))
                    clear c19
                    obtain rfl := Option.some.inj H
                    go_wp2_with (first | ((with_reducible refine gate_callee (f := 12) rfl ?_); refine goesL_ (some 52) rfl rfl Try.func12 (by kernel_rfl) rfl #[.int .i64 (wrap64 (a0 - 1)), .int .u32 a1, .int .u32 a2] rfl (by (try simp only [List.map_toArray, List.map_cons, List.map_nil]); first | done | rfl | (simp only [List.length_drop, List.length_take]; rfl)) ?_; (with_reducible refine (alu_Taken.calls (wrap64 (a0 - 1)) a1 a2 t115 t116 _ A15.out).mono ?_); rintro e w' ⟨rfl, ⟨nd, rfl⟩⟩; refine ⟨_, rfl, ?_⟩) | (go_at_call 13; (with_reducible refine (mimesisref07_Taken.calls a0 a1 a2 t117 _ A18.out).mono ?_); rintro e w' ⟨rfl, ⟨nd, rfl⟩⟩))
                    go_ret
                    exact ⟨by first | rfl | (simp; done) | (simp [*]; done), by repeat (first | exact Drawn0.refl _ | apply Drawn0.step)⟩
                · rw [if_neg c17] at H
                  have c17b0 : (t116 == 0) = false := beq_eq_false_iff_ne.mpr c17
                  have c17b1 : (t116 != 0) = true := bne_iff_ne.mpr c17
                  obtain rfl := Option.some.inj H
                  go_wp2_with (first | ((with_reducible refine gate_callee (f := 12) rfl ?_); refine goesL_ (some 52) rfl rfl Try.func12 (by kernel_rfl) rfl #[.int .i64 (wrap64 (a0 - 1)), .int .u32 a1, .int .u32 a2] rfl (by (try simp only [List.map_toArray, List.map_cons, List.map_nil]); first | done | rfl | (simp only [List.length_drop, List.length_take]; rfl)) ?_; (with_reducible refine (alu_Taken.calls (wrap64 (a0 - 1)) a1 a2 t115 t116 _ A15.out).mono ?_); rintro e w' ⟨rfl, ⟨nd, rfl⟩⟩; refine ⟨_, rfl, ?_⟩))
                  go_ret
                  exact ⟨by first | rfl | (simp; done) | (simp [*]; done), by repeat (first | exact Drawn0.refl _ | apply Drawn0.step)⟩
              · rw [if_neg c16] at H
                have c16b0 : (t113 == 0) = false := beq_eq_false_iff_ne.mpr c16
                have c16b1 : (t113 != 0) = true := bne_iff_ne.mpr c16
                obtain rfl := Option.some.inj H
                go_wp2_with (first | ((with_reducible refine gate_callee (f := 12) rfl ?_); refine goesL_ (some 52) rfl rfl Try.func12 (by kernel_rfl) rfl #[.int .i64 (wrap64 (a0 - 1)), .int .u32 a1, .int .u32 a2] rfl (by (try simp only [List.map_toArray, List.map_cons, List.map_nil]); first | done | rfl | (simp only [List.length_drop, List.length_take]; rfl)) ?_; (with_reducible refine (alu_Taken.calls (wrap64 (a0 - 1)) a1 a2 t115 t116 _ A15.out).mono ?_); rintro e w' ⟨rfl, ⟨nd, rfl⟩⟩; refine ⟨_, rfl, ?_⟩))
                go_ret
                exact ⟨by first | rfl | (simp; done) | (simp [*]; done), by repeat (first | exact Drawn0.refl _ | apply Drawn0.step)⟩
            · replace c14 := Bool.eq_false_iff.mpr c14
              subst c14
              have H1 : ((alu_Taken.f (wrap64 (a0 + 1)) a1 a2).bind fun bt119 => (if t113 = 0 then (if bt119.2 = 0 then ((mimesisref07_Taken.f a0 a1 a2).bind fun t121 => (if (t112 == t121) = true then (if (t112 != bt119.1) = true then ((mimesislaw07_awake.f).bind fun t122 => (some t122)) else (some false)) else (some false))) else (some false)) else (some false))) = some r := by rw [if_neg (show ¬ (false = true) by decide)] at H; exact H
              clear H
              have H := H1
              clear H1
              replace H := Option.bind_eq_some_iff.mp H
              obtain ⟨⟨t119, t120⟩, A220, H⟩ := H
              replace H : (if t113 = 0 then (if t120 = 0 then ((mimesisref07_Taken.f a0 a1 a2).bind fun t121 => (if (t112 == t121) = true then (if (t112 != t119) = true then ((mimesislaw07_awake.f).bind fun t122 => (some t122)) else (some false)) else (some false))) else (some false)) else (some false)) = some r := H
              have A22 := Aside0.mk A220
              clear A220
              by_cases c23 : t113 = 0
              · rw [if_pos c23] at H
                have c23b0 : (t113 == 0) = true := beq_iff_eq.mpr c23
                have c23b1 : (t113 != 0) = false := bne_eq_false_iff_eq.mpr c23
                clear c23
                by_cases c24 : t120 = 0
                · rw [if_pos c24] at H
                  have c24b0 : (t120 == 0) = true := beq_iff_eq.mpr c24
                  have c24b1 : (t120 != 0) = false := bne_eq_false_iff_eq.mpr c24
                  clear c24
                  replace H := Option.bind_eq_some_iff.mp H
                  obtain ⟨t121, A250, H⟩ := H
                  replace H : (if (t112 == t121) = true then (if (t112 != t119) = true then ((mimesislaw07_awake.f).bind fun t122 => (some t122)) else (some false)) else (some false)) = some r := H
                  have A25 := Aside0.mk A250
                  clear A250
                  by_cases c26 : (t112 == t121) = true
                  · rw [if_pos c26] at H
                    have c26b0 : (t112 == t121) = true := c26
                    (try (have c26b1 : decide (t112 = t121) = true := by simpa using c26))
                    (try (have c26b2 : (t112 == t121) = true := by simpa using c26))
                    clear c26
                    by_cases c27 : (t112 != t119) = true
                    · rw [if_pos c27] at H
                      have c27b0 : (t112 != t119) = true := c27
                      (try (have c27b1 : decide (t112 = t119) = false := by simpa using c27))
                      (try (have c27b2 : (t112 == t119) = false := by simpa using c27))
                      (try (have c27b3 : ¬ (t112 = t119) := by simpa using c27))
                      clear c27
                      replace H := Option.bind_eq_some_iff.mp H
                      obtain ⟨t122, A280, H⟩ := H
                      replace H : (some t122) = some r := H
                      have A28 := Aside0.mk A280
                      clear A280
                      obtain rfl := Option.some.inj H
                      go_wp2_with (first | ((with_reducible refine gate_callee (f := 12) rfl ?_); refine goesL_ (some 52) rfl rfl Try.func12 (by kernel_rfl) rfl #[.int .i64 (wrap64 (a0 + 1)), .int .u32 a1, .int .u32 a2] rfl (by (try simp only [List.map_toArray, List.map_cons, List.map_nil]); first | done | rfl | (simp only [List.length_drop, List.length_take]; rfl)) ?_; (with_reducible refine (alu_Taken.calls (wrap64 (a0 + 1)) a1 a2 t119 t120 _ A22.out).mono ?_); rintro e w' ⟨rfl, ⟨nd, rfl⟩⟩; refine ⟨_, rfl, ?_⟩) | (go_at_call 13; (with_reducible refine (mimesisref07_Taken.calls a0 a1 a2 t121 _ A25.out).mono ?_); rintro e w' ⟨rfl, ⟨nd, rfl⟩⟩) | (go_at_call 10; (with_reducible refine (mimesislaw07_awake.calls  t122 _ A28.out).mono ?_); rintro e w' ⟨rfl, ⟨nd, rfl⟩⟩))
                      go_ret
                      exact ⟨by first | rfl | (simp; done) | (simp [*]; done), by repeat (first | exact Drawn0.refl _ | apply Drawn0.step)⟩
                    · rw [if_neg c27] at H
                      have c27b0 : (t112 != t119) = false := by simpa using c27
                      (try (have c27b1 : decide (t112 = t119) = true := by simpa using c27))
                      (try (have c27b2 : (t112 == t119) = true := by simpa using c27))
                      clear c27
                      obtain rfl := Option.some.inj H
                      go_wp2_with (first | ((with_reducible refine gate_callee (f := 12) rfl ?_); refine goesL_ (some 52) rfl rfl Try.func12 (by kernel_rfl) rfl #[.int .i64 (wrap64 (a0 + 1)), .int .u32 a1, .int .u32 a2] rfl (by (try simp only [List.map_toArray, List.map_cons, List.map_nil]); first | done | rfl | (simp only [List.length_drop, List.length_take]; rfl)) ?_; (with_reducible refine (alu_Taken.calls (wrap64 (a0 + 1)) a1 a2 t119 t120 _ A22.out).mono ?_); rintro e w' ⟨rfl, ⟨nd, rfl⟩⟩; refine ⟨_, rfl, ?_⟩) | (go_at_call 13; (with_reducible refine (mimesisref07_Taken.calls a0 a1 a2 t121 _ A25.out).mono ?_); rintro e w' ⟨rfl, ⟨nd, rfl⟩⟩))
                      go_ret
                      exact ⟨by first | rfl | (simp; done) | (simp [*]; done), by repeat (first | exact Drawn0.refl _ | apply Drawn0.step)⟩
                  · rw [if_neg c26] at H
                    have c26b0 : (t112 == t121) = false := by simpa using c26
                    (try (have c26b1 : decide (t112 = t121) = false := by simpa using c26))
                    (try (have c26b2 : (t112 == t121) = false := by simpa using c26))
                    (try (have c26b3 : ¬ (t112 = t121) := by simpa using c26))
                    clear c26
                    obtain rfl := Option.some.inj H
                    go_wp2_with (first | ((with_reducible refine gate_callee (f := 12) rfl ?_); refine goesL_ (some 52) rfl rfl Try.func12 (by kernel_rfl) rfl #[.int .i64 (wrap64 (a0 + 1)), .int .u32 a1, .int .u32 a2] rfl (by (try simp only [List.map_toArray, List.map_cons, List.map_nil]); first | done | rfl | (simp only [List.length_drop, List.length_take]; rfl)) ?_; (with_reducible refine (alu_Taken.calls (wrap64 (a0 + 1)) a1 a2 t119 t120 _ A22.out).mono ?_); rintro e w' ⟨rfl, ⟨nd, rfl⟩⟩; refine ⟨_, rfl, ?_⟩) | (go_at_call 13; (with_reducible refine (mimesisref07_Taken.calls a0 a1 a2 t121 _ A25.out).mono ?_); rintro e w' ⟨rfl, ⟨nd, rfl⟩⟩))
                    go_ret
                    exact ⟨by first | rfl | (simp; done) | (simp [*]; done), by repeat (first | exact Drawn0.refl _ | apply Drawn0.step)⟩
                · rw [if_neg c24] at H
                  have c24b0 : (t120 == 0) = false := beq_eq_false_iff_ne.mpr c24
                  have c24b1 : (t120 != 0) = true := bne_iff_ne.mpr c24
                  obtain rfl := Option.some.inj H
                  go_wp2_with (first | ((with_reducible refine gate_callee (f := 12) rfl ?_); refine goesL_ (some 52) rfl rfl Try.func12 (by kernel_rfl) rfl #[.int .i64 (wrap64 (a0 + 1)), .int .u32 a1, .int .u32 a2] rfl (by (try simp only [List.map_toArray, List.map_cons, List.map_nil]); first | done | rfl | (simp only [List.length_drop, List.length_take]; rfl)) ?_; (with_reducible refine (alu_Taken.calls (wrap64 (a0 + 1)) a1 a2 t119 t120 _ A22.out).mono ?_); rintro e w' ⟨rfl, ⟨nd, rfl⟩⟩; refine ⟨_, rfl, ?_⟩))
                  go_ret
                  exact ⟨by first | rfl | (simp; done) | (simp [*]; done), by repeat (first | exact Drawn0.refl _ | apply Drawn0.step)⟩
              · rw [if_neg c23] at H
                have c23b0 : (t113 == 0) = false := beq_eq_false_iff_ne.mpr c23
                have c23b1 : (t113 != 0) = true := bne_iff_ne.mpr c23
                obtain rfl := Option.some.inj H
                go_wp2_with (first | ((with_reducible refine gate_callee (f := 12) rfl ?_); refine goesL_ (some 52) rfl rfl Try.func12 (by kernel_rfl) rfl #[.int .i64 (wrap64 (a0 + 1)), .int .u32 a1, .int .u32 a2] rfl (by (try simp only [List.map_toArray, List.map_cons, List.map_nil]); first | done | rfl | (simp only [List.length_drop, List.length_take]; rfl)) ?_; (with_reducible refine (alu_Taken.calls (wrap64 (a0 + 1)) a1 a2 t119 t120 _ A22.out).mono ?_); rintro e w' ⟨rfl, ⟨nd, rfl⟩⟩; refine ⟨_, rfl, ?_⟩))
                go_ret
                exact ⟨by first | rfl | (simp; done) | (simp [*]; done), by repeat (first | exact Drawn0.refl _ | apply Drawn0.step)⟩

/-- THE ONE PURE STATEMENT of mimesislaw07_AluTakes: yours. -/
def mimesislaw07_AluTakes.Pure : Prop := ∀ (a0 : Int) (a1 : Int) (a2 : Int), (Lit.int .i64 a0).wf = true → (Lit.int .u32 a1).wf = true → (Lit.int .u32 a2).wf = true → ∃ k, mimesislaw07_AluTakes.f k a0 a1 a2 = some true
theorem mimesislaw07_AluTakes.walk (P : mimesislaw07_AluTakes.Pure) (a0 : Int) (a1 : Int) (a2 : Int) (w : World) (w0 : (Lit.int .i64 a0).wf = true) (w1 : (Lit.int .u32 a1).wf = true) (w2 : (Lit.int .u32 a2).wf = true) :
    Calls Try.prog 4 #[.int .i64 a0, .int .u32 a1, .int .u32 a2] w fun e w' => e = .returned (.bool true) ∧ Below w.heap.size w w' := by
  obtain ⟨k, h⟩ := P a0 a1 a2 w0 w1 w2
  refine (mimesislaw07_AluTakes.calls k a0 a1 a2 true w h).mono ?_
  rintro e w' ⟨rfl, hd⟩
  exact ⟨rfl, hd.below⟩

end Go.Proofs.Ytnooikjkjcflbab.PAluTakes
