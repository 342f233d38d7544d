/- Functions of the program as plain functions, and contracts of them: printed by the kit's print for this seat, cut into a text of our own. Conditions: the plain function answers. -/
import Derived.Test.YtnooikjkjcflbadDoorPDisasmWordsx0
namespace Go.Proofs.YtnooikjkjcflbadDoor.PDisasmWords
open Go.RowKit Go.Proofs.YtnooikjkjcflbadDoorW.PrintWords Go.Proofs.YtnooikjkjcflbadDoorW.PrintLast Go.Proofs.YtnooikjkjcflbadDoorW.PrintMore
attribute [local go_sem] max2_int min2_int max_two min_two max_three min_three max_four min_four
set_option linter.unusedVariables false
set_option linter.unusedSimpArgs false

/-! mimesisref01_Power -/
def mimesisref01_Power.l0 : Nat → Int → Int → Int → Option (Int)
  | 0, _, _, _ => none
  | k + 1, x0, x3, x4 => if x4 < x0 then (mimesisref01_Power.l0 k x0 (IntKind.u64.wrap (x3 * 2)) (wrap64 (x4 + 1))) else (some x3)
def mimesisref01_Power.f (k : Nat) (a0 : Int) : Option (Int) := mimesisref01_Power.l0 k a0 1 0
theorem mimesisref01_Power.mono_l : ∀ k, (∀ y0 y1 y2, LeO (mimesisref01_Power.l0 k y0 y1 y2) (mimesisref01_Power.l0 (k + 1) y0 y1 y2))
  | 0 => fun _ _ _ r h => by simp [mimesisref01_Power.l0] at h
  | k + 1 => by
    have ih0 := mimesisref01_Power.mono_l k
    · intro y0 y1 y2
      unfold mimesisref01_Power.l0
      repeat' first
      | (with_reducible exact ih0 _ _ _)
      | (with_reducible exact LeO.refl _)
      | (with_reducible exact LeO.none _)
      | (with_reducible refine LeO.ite ?_ ?_)
      | (with_reducible refine LeO.bind ?_ (fun _ => ?_))
      | exact ih0 _ _ _
      | exact LeO.none _
      | refine LeO.ite ?_ ?_
      | refine LeO.bind ?_ (fun _ => ?_)
theorem mimesisref01_Power.mono : ∀ a0 k, LeO (mimesisref01_Power.f k a0) (mimesisref01_Power.f (k + 1) a0) := by
  intro a0 k
  have ih0 := mimesisref01_Power.mono_l k
  unfold mimesisref01_Power.f
  repeat' first
      | (with_reducible exact ih0 _ _ _)
      | (with_reducible exact LeO.refl _)
      | (with_reducible exact LeO.none _)
      | (with_reducible refine LeO.ite ?_ ?_)
      | (with_reducible refine LeO.bind ?_ (fun _ => ?_))
      | exact ih0 _ _ _
      | exact LeO.none _
      | refine LeO.ite ?_ ?_
      | refine LeO.bind ?_ (fun _ => ?_)
set_option maxHeartbeats 8000000 in
set_option maxRecDepth 100000 in
theorem mimesisref01_Power.calls (k : Nat) (a0 : Int) (r : Int) (w : World) (h : mimesisref01_Power.f k a0 = some r) :
    Calls Tryd.prog 93 #[.int .i64 a0] w fun e w' => e = .returned (.int .u64 r) ∧ Drawn0 w w' := by
  have H : (mimesisref01_Power.l0 k a0 1 0) = some r := h
  clear h
  have H' := Aside0.mk H
  clear H
  go_enter Tryd.func93, Tryd.ntmps93
  go_wp2
  go_loopg [3, 4] k (fun kq v3 v4 w' => ∃ (x3_1 : Int) (x4_1 : Int), v3 = .int .u64 x3_1 ∧ v4 = .int .i64 x4_1 ∧ Aside0 (mimesisref01_Power.l0 kq a0 x3_1 x4_1 = some r) ∧ Aside0 (kq ≤ k) ∧ Drawn0 w w')
  case atStart => exact ⟨(1), (0), (by first | rfl | (simp; done) | (simp [*]; done)), (by first | rfl | (simp; done) | (simp [*]; done)), H', ⟨Nat.le_refl _⟩, by repeat (first | exact Drawn0.refl _ | apply Drawn0.step)⟩
  case round =>
    clear H'
    obtain ⟨x3_1, x4_1, rfl, rfl, HA, HK1, ⟨m1, rfl⟩⟩ := hrel
    cases gk with
    | zero => exact absurd HA.out (by simp [mimesisref01_Power.l0])
    | succ k1 =>
      have H := HA.out
      clear HA
      simp only [mimesisref01_Power.l0] at H
      by_cases c2 : x4_1 < a0
      · rw [if_pos c2] at H
        have c2b0 : decide (x4_1 < a0) = true := decide_eq_true c2
        clear c2
        have H' := Aside0.mk H
        clear H
        go_wp2
        go_roundg k1
        case measure => have := HK1.out; omega
        case rel => exact ⟨(IntKind.u64.wrap (x3_1 * 2)), (wrap64 (x4_1 + 1)), (by first | rfl | (simp; done) | (simp [*]; done)), (by first | rfl | (simp; done) | (simp [*]; done)), H', ⟨by have := HK1.out; omega⟩, by repeat (first | exact Drawn0.refl _ | apply Drawn0.step)⟩
      · rw [if_neg c2] at H
        have c2b0 : decide (x4_1 < a0) = false := decide_eq_false c2
        clear c2
        obtain rfl := Option.some.inj H
        go_wp2
        go_ret
        exact ⟨by first | rfl | (simp; done) | (simp [*]; done), by repeat (first | exact Drawn0.refl _ | apply Drawn0.step)⟩

/-! mimesisref01_Extend -/
def mimesisref01_Extend.f (k : Nat) (a0 : Int) (a1 : Int) : Option (Int) := (mimesisref01_Power.f k a1).bind fun t226 => (if t226 = 0 then (none) else ((mimesisref01_Power.f k (wrap64 (a1 - 1))).bind fun t227 => (if (Int.tmod (IntKind.u64.wrap (a0)) t226) ≥ t227 then ((mimesisref01_Power.f k 32).bind fun t228 => ((mimesisref01_Power.f k a1).bind fun t229 => (some ((IntKind.u64.wrap ((IntKind.u64.wrap ((Int.tmod (IntKind.u64.wrap (a0)) t226) + t228)) - t229)) % 4294967296)))) else (some ((Int.tmod (IntKind.u64.wrap (a0)) t226) % 4294967296)))))
theorem mimesisref01_Extend.mono : ∀ a0 a1 k, LeO (mimesisref01_Extend.f k a0 a1) (mimesisref01_Extend.f (k + 1) a0 a1) := by
  intro a0 a1 k
  unfold mimesisref01_Extend.f
  repeat' first
      | (with_reducible exact mimesisref01_Power.mono _ _)
      | (with_reducible exact LeO.refl _)
      | (with_reducible exact LeO.none _)
      | (with_reducible refine LeO.ite ?_ ?_)
      | (with_reducible refine LeO.bind ?_ (fun _ => ?_))
      | exact mimesisref01_Power.mono _ _
      | exact LeO.none _
      | refine LeO.ite ?_ ?_
      | refine LeO.bind ?_ (fun _ => ?_)
set_option maxHeartbeats 8000000 in
set_option maxRecDepth 100000 in
theorem mimesisref01_Extend.calls (k : Nat) (a0 : Int) (a1 : Int) (r : Int) (w : World) (h : mimesisref01_Extend.f k a0 a1 = some r) :
    Calls Tryd.prog 94 #[.int .u32 a0, .int .i64 a1] w fun e w' => e = .returned (.int .u32 r) ∧ Drawn0 w w' := by
  have H : ((mimesisref01_Power.f k a1).bind fun t226 => (if t226 = 0 then (none) else ((mimesisref01_Power.f k (wrap64 (a1 - 1))).bind fun t227 => (if (Int.tmod (IntKind.u64.wrap (a0)) t226) ≥ t227 then ((mimesisref01_Power.f k 32).bind fun t228 => ((mimesisref01_Power.f k a1).bind fun t229 => (some ((IntKind.u64.wrap ((IntKind.u64.wrap ((Int.tmod (IntKind.u64.wrap (a0)) t226) + t228)) - t229)) % 4294967296)))) else (some ((Int.tmod (IntKind.u64.wrap (a0)) t226) % 4294967296)))))) = some r := h
  clear h
  replace H := Option.bind_eq_some_iff.mp H
  obtain ⟨t226, A30, H⟩ := H
  replace H : (if t226 = 0 then (none) else ((mimesisref01_Power.f k (wrap64 (a1 - 1))).bind fun t227 => (if (Int.tmod (IntKind.u64.wrap (a0)) t226) ≥ t227 then ((mimesisref01_Power.f k 32).bind fun t228 => ((mimesisref01_Power.f k a1).bind fun t229 => (some ((IntKind.u64.wrap ((IntKind.u64.wrap ((Int.tmod (IntKind.u64.wrap (a0)) t226) + t228)) - t229)) % 4294967296)))) else (some ((Int.tmod (IntKind.u64.wrap (a0)) t226) % 4294967296))))) = some r := H
  have A3 := Aside0.mk A30
  clear A30
  by_cases c4 : t226 = 0
  · rw [if_pos c4] at H
    exact absurd H (by simp)
  · rw [if_neg c4] at H
    have c4b0 : (t226 == 0) = false := beq_eq_false_iff_ne.mpr c4
    have c4b1 : (t226 != 0) = true := bne_iff_ne.mpr c4
    replace H := Option.bind_eq_some_iff.mp H
    obtain ⟨t227, A50, H⟩ := H
    replace H : (if (Int.tmod (IntKind.u64.wrap (a0)) t226) ≥ t227 then ((mimesisref01_Power.f k 32).bind fun t228 => ((mimesisref01_Power.f k a1).bind fun t229 => (some ((IntKind.u64.wrap ((IntKind.u64.wrap ((Int.tmod (IntKind.u64.wrap (a0)) t226) + t228)) - t229)) % 4294967296)))) else (some ((Int.tmod (IntKind.u64.wrap (a0)) t226) % 4294967296))) = some r := H
    have A5 := Aside0.mk A50
    clear A50
    by_cases c6 : (Int.tmod (IntKind.u64.wrap (a0)) t226) ≥ t227
    · rw [if_pos c6] at H
      have c6b0 : decide (t227 ≤ (Int.tmod (IntKind.u64.wrap (a0)) t226)) = true := decide_eq_true c6
      clear c6
      replace H := Option.bind_eq_some_iff.mp H
      obtain ⟨t228, A70, H⟩ := H
      replace H : ((mimesisref01_Power.f k a1).bind fun t229 => (some ((IntKind.u64.wrap ((IntKind.u64.wrap ((Int.tmod (IntKind.u64.wrap (a0)) t226) + t228)) - t229)) % 4294967296))) = some r := H
      have A7 := Aside0.mk A70
      clear A70
      replace H := Option.bind_eq_some_iff.mp H
      obtain ⟨t229, A80, H⟩ := H
      replace H : (some ((IntKind.u64.wrap ((IntKind.u64.wrap ((Int.tmod (IntKind.u64.wrap (a0)) t226) + t228)) - t229)) % 4294967296)) = some r := H
      have A8 := Aside0.mk A80
      clear A80
      obtain rfl := Option.some.inj H
      go_enter Tryd.func94, Tryd.ntmps94
      go_wp2_with (first | ((with_reducible refine gate_callee (f := 93) rfl ?_); refine goesL_ (some 9) rfl rfl Tryd.func93 (by kernel_rfl) rfl #[.int .i64 a1] rfl (by (try simp only [List.map_toArray, List.map_cons, List.map_nil]); first | done | rfl | (simp only [List.length_drop, List.length_take]; rfl)) ?_; (with_reducible refine (mimesisref01_Power.calls k a1 t226 _ A3.out).mono ?_); rintro e w' ⟨rfl, ⟨nd, rfl⟩⟩; refine ⟨_, rfl, ?_⟩) | ((with_reducible refine gate_callee (f := 93) rfl ?_); refine goesL_ (some 14) rfl rfl Tryd.func93 (by kernel_rfl) rfl #[.int .i64 (wrap64 (a1 - 1))] rfl (by (try simp only [List.map_toArray, List.map_cons, List.map_nil]); first | done | rfl | (simp only [List.length_drop, List.length_take]; rfl)) ?_; (with_reducible refine (mimesisref01_Power.calls k (wrap64 (a1 - 1)) t227 _ A5.out).mono ?_); rintro e w' ⟨rfl, ⟨nd, rfl⟩⟩; refine ⟨_, rfl, ?_⟩) | ((with_reducible refine gate_callee (f := 93) rfl ?_); refine goesL_ (some 17) rfl rfl Tryd.func93 (by kernel_rfl) rfl #[.int .i64 32] rfl (by (try simp only [List.map_toArray, List.map_cons, List.map_nil]); first | done | rfl | (simp only [List.length_drop, List.length_take]; rfl)) ?_; (with_reducible refine (mimesisref01_Power.calls k 32 t228 _ A7.out).mono ?_); rintro e w' ⟨rfl, ⟨nd, rfl⟩⟩; refine ⟨_, rfl, ?_⟩) | ((with_reducible refine gate_callee (f := 93) rfl ?_); refine goesL_ (some 20) rfl rfl Tryd.func93 (by kernel_rfl) rfl #[.int .i64 a1] rfl (by (try simp only [List.map_toArray, List.map_cons, List.map_nil]); first | done | rfl | (simp only [List.length_drop, List.length_take]; rfl)) ?_; (with_reducible refine (mimesisref01_Power.calls k a1 t229 _ A8.out).mono ?_); rintro e w' ⟨rfl, ⟨nd, rfl⟩⟩; refine ⟨_, rfl, ?_⟩))
      go_ret
      exact ⟨by first | rfl | (simp; done) | (simp [*]; done), by repeat (first | exact Drawn0.refl _ | apply Drawn0.step)⟩
    · rw [if_neg c6] at H
      have c6b0 : decide (t227 ≤ (Int.tmod (IntKind.u64.wrap (a0)) t226)) = false := decide_eq_false c6
      clear c6
      obtain rfl := Option.some.inj H
      go_enter Tryd.func94, Tryd.ntmps94
      go_wp2_with (first | ((with_reducible refine gate_callee (f := 93) rfl ?_); refine goesL_ (some 9) rfl rfl Tryd.func93 (by kernel_rfl) rfl #[.int .i64 a1] rfl (by (try simp only [List.map_toArray, List.map_cons, List.map_nil]); first | done | rfl | (simp only [List.length_drop, List.length_take]; rfl)) ?_; (with_reducible refine (mimesisref01_Power.calls k a1 t226 _ A3.out).mono ?_); rintro e w' ⟨rfl, ⟨nd, rfl⟩⟩; refine ⟨_, rfl, ?_⟩) | ((with_reducible refine gate_callee (f := 93) rfl ?_); refine goesL_ (some 14) rfl rfl Tryd.func93 (by kernel_rfl) rfl #[.int .i64 (wrap64 (a1 - 1))] rfl (by (try simp only [List.map_toArray, List.map_cons, List.map_nil]); first | done | rfl | (simp only [List.length_drop, List.length_take]; rfl)) ?_; (with_reducible refine (mimesisref01_Power.calls k (wrap64 (a1 - 1)) t227 _ A5.out).mono ?_); rintro e w' ⟨rfl, ⟨nd, rfl⟩⟩; refine ⟨_, rfl, ?_⟩))
      go_ret
      exact ⟨by first | rfl | (simp; done) | (simp [*]; done), by repeat (first | exact Drawn0.refl _ | apply Drawn0.step)⟩

/-! mimesisref01_Bits -/
def mimesisref01_Bits.f (k : Nat) (a0 : Int) (a1 : Int) (a2 : Int) : Option (Int) := (mimesisref01_Power.f k a1).bind fun t223 => (if t223 = 0 then (none) else ((mimesisref01_Power.f k a2).bind fun t224 => (if t224 = 0 then (none) else (some ((Int.tmod (IntKind.u64.wrap (Int.tdiv (IntKind.u64.wrap (a0)) t223)) t224) % 4294967296)))))
theorem mimesisref01_Bits.mono : ∀ a0 a1 a2 k, LeO (mimesisref01_Bits.f k a0 a1 a2) (mimesisref01_Bits.f (k + 1) a0 a1 a2) := by
  intro a0 a1 a2 k
  unfold mimesisref01_Bits.f
  repeat' first
      | (with_reducible exact mimesisref01_Power.mono _ _)
      | (with_reducible exact LeO.refl _)
      | (with_reducible exact LeO.none _)
      | (with_reducible refine LeO.ite ?_ ?_)
      | (with_reducible refine LeO.bind ?_ (fun _ => ?_))
      | exact mimesisref01_Power.mono _ _
      | exact LeO.none _
      | refine LeO.ite ?_ ?_
      | refine LeO.bind ?_ (fun _ => ?_)
set_option maxHeartbeats 8000000 in
set_option maxRecDepth 100000 in
theorem mimesisref01_Bits.calls (k : Nat) (a0 : Int) (a1 : Int) (a2 : Int) (r : Int) (w : World) (h : mimesisref01_Bits.f k a0 a1 a2 = some r) :
    Calls Tryd.prog 95 #[.int .u32 a0, .int .i64 a1, .int .i64 a2] w fun e w' => e = .returned (.int .u32 r) ∧ Drawn0 w w' := by
  have H : ((mimesisref01_Power.f k a1).bind fun t223 => (if t223 = 0 then (none) else ((mimesisref01_Power.f k a2).bind fun t224 => (if t224 = 0 then (none) else (some ((Int.tmod (IntKind.u64.wrap (Int.tdiv (IntKind.u64.wrap (a0)) t223)) t224) % 4294967296)))))) = some r := h
  clear h
  replace H := Option.bind_eq_some_iff.mp H
  obtain ⟨t223, A40, H⟩ := H
  replace H : (if t223 = 0 then (none) else ((mimesisref01_Power.f k a2).bind fun t224 => (if t224 = 0 then (none) else (some ((Int.tmod (IntKind.u64.wrap (Int.tdiv (IntKind.u64.wrap (a0)) t223)) t224) % 4294967296))))) = some r := H
  have A4 := Aside0.mk A40
  clear A40
  by_cases c5 : t223 = 0
  · rw [if_pos c5] at H
    exact absurd H (by simp)
  · rw [if_neg c5] at H
    have c5b0 : (t223 == 0) = false := beq_eq_false_iff_ne.mpr c5
    have c5b1 : (t223 != 0) = true := bne_iff_ne.mpr c5
    replace H := Option.bind_eq_some_iff.mp H
    obtain ⟨t224, A60, H⟩ := H
    replace H : (if t224 = 0 then (none) else (some ((Int.tmod (IntKind.u64.wrap (Int.tdiv (IntKind.u64.wrap (a0)) t223)) t224) % 4294967296))) = some r := H
    have A6 := Aside0.mk A60
    clear A60
    by_cases c7 : t224 = 0
    · rw [if_pos c7] at H
      exact absurd H (by simp)
    · rw [if_neg c7] at H
      have c7b0 : (t224 == 0) = false := beq_eq_false_iff_ne.mpr c7
      have c7b1 : (t224 != 0) = true := bne_iff_ne.mpr c7
      obtain rfl := Option.some.inj H
      go_enter Tryd.func95, Tryd.ntmps95
      go_wp2_with (first | (go_at_call 93; (with_reducible refine (mimesisref01_Power.calls k a1 t223 _ A4.out).mono ?_); rintro e w' ⟨rfl, ⟨nd, rfl⟩⟩; (try first | exact ⟨rfl, _, World.drewN_drewN _ _ _⟩ | exact ⟨rfl, _, Eq.trans (World.drewN_drewN _ _ _) (congrArg (World.drewN _) (Nat.add_assoc _ _ _))⟩)) | (go_at_call 93; (with_reducible refine (mimesisref01_Power.calls k a2 t224 _ A6.out).mono ?_); rintro e w' ⟨rfl, ⟨nd, rfl⟩⟩; (try first | exact ⟨rfl, _, World.drewN_drewN _ _ _⟩ | exact ⟨rfl, _, Eq.trans (World.drewN_drewN _ _ _) (congrArg (World.drewN _) (Nat.add_assoc _ _ _))⟩)))
      repeat (go_quiet (first | (go_at_call 93; (with_reducible refine (mimesisref01_Power.calls k a1 t223 _ A4.out).mono ?_); rintro e w' ⟨rfl, ⟨nd, rfl⟩⟩; (try first | exact ⟨rfl, _, World.drewN_drewN _ _ _⟩ | exact ⟨rfl, _, Eq.trans (World.drewN_drewN _ _ _) (congrArg (World.drewN _) (Nat.add_assoc _ _ _))⟩)) | (go_at_call 93; (with_reducible refine (mimesisref01_Power.calls k a2 t224 _ A6.out).mono ?_); rintro e w' ⟨rfl, ⟨nd, rfl⟩⟩; (try first | exact ⟨rfl, _, World.drewN_drewN _ _ _⟩ | exact ⟨rfl, _, Eq.trans (World.drewN_drewN _ _ _) (congrArg (World.drewN _) (Nat.add_assoc _ _ _))⟩))); try go_wp2_with (first | (go_at_call 93; (with_reducible refine (mimesisref01_Power.calls k a1 t223 _ A4.out).mono ?_); rintro e w' ⟨rfl, ⟨nd, rfl⟩⟩; (try first | exact ⟨rfl, _, World.drewN_drewN _ _ _⟩ | exact ⟨rfl, _, Eq.trans (World.drewN_drewN _ _ _) (congrArg (World.drewN _) (Nat.add_assoc _ _ _))⟩)) | (go_at_call 93; (with_reducible refine (mimesisref01_Power.calls k a2 t224 _ A6.out).mono ?_); rintro e w' ⟨rfl, ⟨nd, rfl⟩⟩; (try first | exact ⟨rfl, _, World.drewN_drewN _ _ _⟩ | exact ⟨rfl, _, Eq.trans (World.drewN_drewN _ _ _) (congrArg (World.drewN _) (Nat.add_assoc _ _ _))⟩))))
      go_ret
      exact ⟨by first | rfl | (simp; done) | (simp [*]; done), by repeat (first | exact Drawn0.refl _ | apply Drawn0.step)⟩

/-! mimesisref03_bits -/
def mimesisref03_bits.f (k : Nat) (a0 : Int) (a1 : Int) (a2 : Int) : Option (Int) := (mimesisref01_Bits.f k a0 a2 (wrap64 ((wrap64 (a1 - a2)) + 1))).bind fun t225 => (some t225)
theorem mimesisref03_bits.mono : ∀ a0 a1 a2 k, LeO (mimesisref03_bits.f k a0 a1 a2) (mimesisref03_bits.f (k + 1) a0 a1 a2) := by
  intro a0 a1 a2 k
  unfold mimesisref03_bits.f
  repeat' first
      | (with_reducible exact mimesisref01_Bits.mono _ _ _ _)
      | (with_reducible exact LeO.refl _)
      | (with_reducible exact LeO.none _)
      | (with_reducible refine LeO.ite ?_ ?_)
      | (with_reducible refine LeO.bind ?_ (fun _ => ?_))
      | exact mimesisref01_Bits.mono _ _ _ _
      | exact LeO.none _
      | refine LeO.ite ?_ ?_
      | refine LeO.bind ?_ (fun _ => ?_)
set_option maxHeartbeats 8000000 in
set_option maxRecDepth 100000 in
theorem mimesisref03_bits.calls (k : Nat) (a0 : Int) (a1 : Int) (a2 : Int) (r : Int) (w : World) (h : mimesisref03_bits.f k a0 a1 a2 = some r) :
    Calls Tryd.prog 78 #[.int .u32 a0, .int .i64 a1, .int .i64 a2] w fun e w' => e = .returned (.int .u32 r) ∧ Drawn0 w w' := by
  have H : ((mimesisref01_Bits.f k a0 a2 (wrap64 ((wrap64 (a1 - a2)) + 1))).bind fun t225 => (some t225)) = some r := h
  clear h
  replace H := Option.bind_eq_some_iff.mp H
  obtain ⟨t225, A40, H⟩ := H
  replace H : (some t225) = some r := H
  have A4 := Aside0.mk A40
  clear A40
  obtain rfl := Option.some.inj H
  go_enter Tryd.func78, Tryd.ntmps78
  go_wp2_with (first | ((with_reducible refine gate_callee (f := 95) rfl ?_); refine goesL_ (some 13) rfl rfl Tryd.func95 (by kernel_rfl) rfl #[.int .u32 a0, .int .i64 a2, .int .i64 (wrap64 ((wrap64 (a1 - a2)) + 1))] rfl (by (try simp only [List.map_toArray, List.map_cons, List.map_nil]); first | done | rfl | (simp only [List.length_drop, List.length_take]; rfl)) ?_; (with_reducible refine (mimesisref01_Bits.calls k a0 a2 (wrap64 ((wrap64 (a1 - a2)) + 1)) t225 _ A4.out).mono ?_); rintro e w' ⟨rfl, ⟨nd, rfl⟩⟩; refine ⟨_, rfl, ?_⟩))
  go_ret
  exact ⟨by first | rfl | (simp; done) | (simp [*]; done), by repeat (first | exact Drawn0.refl _ | apply Drawn0.step)⟩

/-! decode_field -/
def decode_field.f (a0 : Int) (a1 : Int) (a2 : Int) : Option (Int) := if 0 ≤ (IntKind.u64.wrap (31 - a1)) then (if 0 ≤ (IntKind.u64.wrap ((IntKind.u64.wrap (31 - a1)) + a2)) then (some (shr .u32 (shl .u32 a0 (IntKind.u64.wrap (31 - a1))) (IntKind.u64.wrap ((IntKind.u64.wrap (31 - a1)) + a2)))) else (none)) else (none)
set_option maxHeartbeats 8000000 in
set_option maxRecDepth 100000 in
theorem decode_field.calls (a0 : Int) (a1 : Int) (a2 : Int) (r : Int) (w : World) (h : decode_field.f a0 a1 a2 = some r) :
    Calls Tryd.prog 96 #[.int .u32 a0, .int .u64 a1, .int .u64 a2] w fun e w' => e = .returned (.int .u32 r) ∧ Drawn0 w w' := by
  have H : (if 0 ≤ (IntKind.u64.wrap (31 - a1)) then (if 0 ≤ (IntKind.u64.wrap ((IntKind.u64.wrap (31 - a1)) + a2)) then (some (shr .u32 (shl .u32 a0 (IntKind.u64.wrap (31 - a1))) (IntKind.u64.wrap ((IntKind.u64.wrap (31 - a1)) + a2)))) else (none)) else (none)) = some r := h
  clear h
  obtain ⟨ji4, hji4⟩ : ∃ j_ : Int, (IntKind.u64.wrap (31 - a1)) = j_ := ⟨_, rfl⟩
  replace H : (if 0 ≤ (ji4) then (if 0 ≤ (IntKind.u64.wrap ((ji4) + a2)) then (some (shr .u32 (shl .u32 a0 (ji4)) (IntKind.u64.wrap ((ji4) + a2)))) else (none)) else (none)) = some r := by first | (rw [hji4] at H; exact H) | (simp only [hji4] at H ⊢; exact H)
  by_cases c5 : 0 ≤ (ji4)
  · rw [if_pos c5] at H
    have c5b0 := eq_true c5
    have c5b1 : decide (0 ≤ (ji4)) = true := decide_eq_true c5
    clear c5
    obtain ⟨ji6, hji6⟩ : ∃ j_ : Int, (shl .u32 a0 (ji4)) = j_ := ⟨_, rfl⟩
    replace H : (if 0 ≤ (IntKind.u64.wrap ((ji4) + a2)) then (some (shr .u32 (ji6) (IntKind.u64.wrap ((ji4) + a2)))) else (none)) = some r := by first | (rw [hji6] at H; exact H) | (simp only [hji6] at H ⊢; exact H)
    have hji6_ : (IntKind.u32.wrap (a0 * 2 ^ min (ji4).toNat 32)) = ji6 := hji6
    have hji6z : (ji4) ≤ 32 → (IntKind.u32.wrap (a0 * 2 ^ (ji4).toNat)) = ji6 := shl_small hji6
    obtain ⟨ji7, hji7⟩ : ∃ j_ : Int, (IntKind.u64.wrap ((ji4) + a2)) = j_ := ⟨_, rfl⟩
    replace H : (if 0 ≤ (ji7) then (some (shr .u32 (ji6) (ji7))) else (none)) = some r := by first | (rw [hji7] at H; exact H) | (simp only [hji7] at H ⊢; exact H)
    by_cases c8 : 0 ≤ (ji7)
    · rw [if_pos c8] at H
      have c8b0 := eq_true c8
      have c8b1 : decide (0 ≤ (ji7)) = true := decide_eq_true c8
      clear c8
      obtain ⟨ji9, hji9⟩ : ∃ j_ : Int, (shr .u32 (ji6) (ji7)) = j_ := ⟨_, rfl⟩
      replace H : (some ji9) = some r := by first | (rw [hji9] at H; exact H) | (simp only [hji9] at H ⊢; exact H)
      have hji9_ : ((ji6) / 2 ^ min (ji7).toNat 32) = ji9 := hji9
      have hji9z : (ji7) ≤ 32 → ((ji6) / 2 ^ (ji7).toNat) = ji9 := shr_small hji9
      obtain rfl := Option.some.inj H
      go_enter Tryd.func96, Tryd.ntmps96
      go_wp2
      go_ret
      exact ⟨by first | rfl | (simp; done) | (simp only [← hji4, ← hji6, ← hji7, ← hji9] <;> (first | rfl | simp)) | (simp [*]; done), by repeat (first | exact Drawn0.refl _ | apply Drawn0.step)⟩
    · rw [if_neg c8] at H
      exact absurd H (by simp)
  · rw [if_neg c5] at H
    exact absurd H (by simp)

/-! decode_branch -/
def decode_branch.j0 : Nat → Int → Int → Bool → Option (Int)
  | 0, _, _, _ => none
  | k + 1, x0, x3, x4 => if x4 = true then (some (wrap64 (5 + (wrap64 (x0))))) else (if x3 = 4 then (some (wrap64 ((wrap64 (7 + (wrap64 (x0)))) - 4))) else (if x3 = 5 then (some (wrap64 ((wrap64 (7 + (wrap64 (x0)))) - 4))) else (if x3 = 6 then (some (wrap64 ((wrap64 (7 + (wrap64 (x0)))) - 4))) else (if x3 = 7 then (some (wrap64 ((wrap64 (7 + (wrap64 (x0)))) - 4))) else (some 0)))))
def decode_branch.f (k : Nat) (a0 : Int) : Option (Int) := if a0 = 0 then (decode_branch.j0 k a0 a0 (a0 == 0)) else (decode_branch.j0 k a0 a0 (a0 == 1))
theorem decode_branch.mono_l : ∀ k, (∀ y0 y1 y2, LeO (decode_branch.j0 k y0 y1 y2) (decode_branch.j0 (k + 1) y0 y1 y2))
  | 0 => fun _ _ _ r h => by simp [decode_branch.j0] at h
  | k + 1 => by
    have ih0 := decode_branch.mono_l k
    · intro y0 y1 y2
      unfold decode_branch.j0
      repeat' first
      | (with_reducible exact ih0 _ _ _)
      | (with_reducible exact LeO.refl _)
      | (with_reducible exact LeO.none _)
      | (with_reducible refine LeO.ite ?_ ?_)
      | (with_reducible refine LeO.bind ?_ (fun _ => ?_))
      | exact ih0 _ _ _
      | exact LeO.none _
      | refine LeO.ite ?_ ?_
      | refine LeO.bind ?_ (fun _ => ?_)
theorem decode_branch.mono : ∀ a0 k, LeO (decode_branch.f k a0) (decode_branch.f (k + 1) a0) := by
  intro a0 k
  have ih0 := decode_branch.mono_l k
  unfold decode_branch.f
  repeat' first
      | (with_reducible exact ih0 _ _ _)
      | (with_reducible exact LeO.refl _)
      | (with_reducible exact LeO.none _)
      | (with_reducible refine LeO.ite ?_ ?_)
      | (with_reducible refine LeO.bind ?_ (fun _ => ?_))
      | exact ih0 _ _ _
      | exact LeO.none _
      | refine LeO.ite ?_ ?_
      | refine LeO.bind ?_ (fun _ => ?_)
set_option maxHeartbeats 8000000 in
set_option maxRecDepth 100000 in
theorem decode_branch.calls (k : Nat) (a0 : Int) (r : Int) (w : World) (h : decode_branch.f k a0 = some r) :
    Calls Tryd.prog 97 #[.int .u32 a0] w fun e w' => e = .returned (.int .i64 r) ∧ Drawn0 w w' := by
  have H : (if a0 = 0 then (decode_branch.j0 k a0 a0 (a0 == 0)) else (decode_branch.j0 k a0 a0 (a0 == 1))) = some r := h
  clear h
  have HC2 := Aside0.mk H
  clear H
  go_enter Tryd.func97, Tryd.ntmps97
  go_upto_if 4 with (fail)
  go_cut [4] (fun v4 wc => ∃ (kq : Nat) (x4_1 : Bool), v4 = .bool x4_1 ∧ Aside0 (decode_branch.j0 kq a0 a0 x4_1 = some r) ∧ Aside0 (kq ≤ k) ∧ Drawn0 w wc)
  case first =>
    have H := HC2.out
    clear HC2
    by_cases c3 : a0 = 0
    · rw [if_pos c3] at H
      have c3b0 : (a0 == 0) = true := beq_iff_eq.mpr c3
      have c3b1 : (a0 != 0) = false := bne_eq_false_iff_eq.mpr c3
      clear c3
      (first | rw [c3b0] | (simp only [i64_w, i32_w]; rw [c3b0]) | skip)
      have H' := Aside0.mk H
      clear H
      go_wp2
      go_meet
      case rel => exact ⟨_, ((a0 == 0)), (by first | rfl | (simp; done) | (simp [*]; done)), H', ⟨by first | omega | exact Nat.le_refl _⟩, by repeat (first | exact Drawn0.refl _ | apply Drawn0.step)⟩
    · rw [if_neg c3] at H
      have c3b0 : (a0 == 0) = false := beq_eq_false_iff_ne.mpr c3
      have c3b1 : (a0 != 0) = true := bne_iff_ne.mpr c3
      (first | rw [c3b0] | (simp only [i64_w, i32_w]; rw [c3b0]) | skip)
      have H' := Aside0.mk H
      clear H
      go_wp2
      go_meet
      case rel => exact ⟨_, ((a0 == 1)), (by first | rfl | (simp; done) | (simp [*]; done)), H', ⟨by first | omega | exact Nat.le_refl _⟩, by repeat (first | exact Drawn0.refl _ | apply Drawn0.step)⟩
  case rest =>
    clear HC2
    try clear p2
    try clear c3
    try clear c3b0
    try clear c3b1
    obtain ⟨kq, x4_1, rfl, HA, HJ1, ⟨mc1, rfl⟩⟩ := hcut
    cases kq with
    | zero => exact absurd HA.out (by simp [decode_branch.j0])
    | succ kj1 =>
      have H := HA.out
      clear HA
      simp only [decode_branch.j0] at H
      by_cases c4 : x4_1 = true
      · subst c4
        have H1 : (some (wrap64 (5 + (wrap64 (a0))))) = some r := by rw [if_pos rfl] at H; exact H
        clear H
        have H := H1
        clear H1
        obtain rfl := Option.some.inj H
        go_wp2
        go_ret
        exact ⟨by first | rfl | (simp; done) | (simp [*]; done), by repeat (first | exact Drawn0.refl _ | apply Drawn0.step)⟩
      · replace c4 := Bool.eq_false_iff.mpr c4
        subst c4
        have H1 : (if a0 = 4 then (some (wrap64 ((wrap64 (7 + (wrap64 (a0)))) - 4))) else (if a0 = 5 then (some (wrap64 ((wrap64 (7 + (wrap64 (a0)))) - 4))) else (if a0 = 6 then (some (wrap64 ((wrap64 (7 + (wrap64 (a0)))) - 4))) else (if a0 = 7 then (some (wrap64 ((wrap64 (7 + (wrap64 (a0)))) - 4))) else (some 0))))) = some r := by rw [if_neg (show ¬ (false = true) by decide)] at H; exact H
        clear H
        have H := H1
        clear H1
        by_cases c5 : a0 = 4
        · rw [if_pos c5] at H
          have c5b0 : (a0 == 4) = true := beq_iff_eq.mpr c5
          have c5b1 : (a0 != 4) = false := bne_eq_false_iff_eq.mpr c5
          clear c5
          obtain rfl := Option.some.inj H
          go_wp2
          go_ret
          exact ⟨by first | rfl | (simp; done) | (simp [*]; done), by repeat (first | exact Drawn0.refl _ | apply Drawn0.step)⟩
        · rw [if_neg c5] at H
          have c5b0 : (a0 == 4) = false := beq_eq_false_iff_ne.mpr c5
          have c5b1 : (a0 != 4) = true := bne_iff_ne.mpr c5
          by_cases c6 : a0 = 5
          · rw [if_pos c6] at H
            have c6b0 : (a0 == 5) = true := beq_iff_eq.mpr c6
            have c6b1 : (a0 != 5) = false := bne_eq_false_iff_eq.mpr c6
            clear c6
            obtain rfl := Option.some.inj H
            go_wp2
            go_ret
            exact ⟨by first | rfl | (simp; done) | (simp [*]; done), by repeat (first | exact Drawn0.refl _ | apply Drawn0.step)⟩
          · rw [if_neg c6] at H
            have c6b0 : (a0 == 5) = false := beq_eq_false_iff_ne.mpr c6
            have c6b1 : (a0 != 5) = true := bne_iff_ne.mpr c6
            by_cases c7 : a0 = 6
            · rw [if_pos c7] at H
              have c7b0 : (a0 == 6) = true := beq_iff_eq.mpr c7
              have c7b1 : (a0 != 6) = false := bne_eq_false_iff_eq.mpr c7
              clear c7
              obtain rfl := Option.some.inj H
              go_wp2
              go_ret
              exact ⟨by first | rfl | (simp; done) | (simp [*]; done), by repeat (first | exact Drawn0.refl _ | apply Drawn0.step)⟩
            · rw [if_neg c7] at H
              have c7b0 : (a0 == 6) = false := beq_eq_false_iff_ne.mpr c7
              have c7b1 : (a0 != 6) = true := bne_iff_ne.mpr c7
              by_cases c8 : a0 = 7
              · rw [if_pos c8] at H
                have c8b0 : (a0 == 7) = true := beq_iff_eq.mpr c8
                have c8b1 : (a0 != 7) = false := bne_eq_false_iff_eq.mpr c8
                clear c8
                obtain rfl := Option.some.inj H
                go_wp2
                go_ret
                exact ⟨by first | rfl | (simp; done) | (simp [*]; done), by repeat (first | exact Drawn0.refl _ | apply Drawn0.step)⟩
              · rw [if_neg c8] at H
                have c8b0 : (a0 == 7) = false := beq_eq_false_iff_ne.mpr c8
                have c8b1 : (a0 != 7) = true := bne_iff_ne.mpr c8
                obtain rfl := Option.some.inj H
                go_wp2
                go_ret
                exact ⟨by first | rfl | (simp; done) | (simp [*]; done), by repeat (first | exact Drawn0.refl _ | apply Drawn0.step)⟩

/-! decode_load -/
def decode_load.j0 : Nat → Int → Int → Bool → Option (Int)
  | 0, _, _, _ => none
  | k + 1, x0, x3, x4 => if x4 = true then (some (wrap64 (11 + (wrap64 (x0))))) else (if x3 = 4 then (some (wrap64 ((wrap64 (14 + (wrap64 (x0)))) - 4))) else (if x3 = 5 then (some (wrap64 ((wrap64 (14 + (wrap64 (x0)))) - 4))) else (some 0)))
def decode_load.f (k : Nat) (a0 : Int) : Option (Int) := if a0 = 0 then (decode_load.j0 k a0 a0 (a0 == 0)) else (if a0 = 1 then (decode_load.j0 k a0 a0 (a0 == 1)) else (decode_load.j0 k a0 a0 (a0 == 2)))
theorem decode_load.mono_l : ∀ k, (∀ y0 y1 y2, LeO (decode_load.j0 k y0 y1 y2) (decode_load.j0 (k + 1) y0 y1 y2))
  | 0 => fun _ _ _ r h => by simp [decode_load.j0] at h
  | k + 1 => by
    have ih0 := decode_load.mono_l k
    · intro y0 y1 y2
      unfold decode_load.j0
      repeat' first
      | (with_reducible exact ih0 _ _ _)
      | (with_reducible exact LeO.refl _)
      | (with_reducible exact LeO.none _)
      | (with_reducible refine LeO.ite ?_ ?_)
      | (with_reducible refine LeO.bind ?_ (fun _ => ?_))
      | exact ih0 _ _ _
      | exact LeO.none _
      | refine LeO.ite ?_ ?_
      | refine LeO.bind ?_ (fun _ => ?_)
theorem decode_load.mono : ∀ a0 k, LeO (decode_load.f k a0) (decode_load.f (k + 1) a0) := by
  intro a0 k
  have ih0 := decode_load.mono_l k
  unfold decode_load.f
  repeat' first
      | (with_reducible exact ih0 _ _ _)
      | (with_reducible exact LeO.refl _)
      | (with_reducible exact LeO.none _)
      | (with_reducible refine LeO.ite ?_ ?_)
      | (with_reducible refine LeO.bind ?_ (fun _ => ?_))
      | exact ih0 _ _ _
      | exact LeO.none _
      | refine LeO.ite ?_ ?_
      | refine LeO.bind ?_ (fun _ => ?_)
set_option maxHeartbeats 8000000 in
set_option maxRecDepth 100000 in
theorem decode_load.calls (k : Nat) (a0 : Int) (r : Int) (w : World) (h : decode_load.f k a0 = some r) :
    Calls Tryd.prog 98 #[.int .u32 a0] w fun e w' => e = .returned (.int .i64 r) ∧ Drawn0 w w' := by
  have H : (if a0 = 0 then (decode_load.j0 k a0 a0 (a0 == 0)) else (if a0 = 1 then (decode_load.j0 k a0 a0 (a0 == 1)) else (decode_load.j0 k a0 a0 (a0 == 2)))) = some r := h
  clear h
  have HC2 := Aside0.mk H
  clear H
  go_enter Tryd.func98, Tryd.ntmps98
  go_upto_if 4 with (fail)
  go_cut [4] (fun v4 wc => ∃ (kq : Nat) (x4_1 : Bool), v4 = .bool x4_1 ∧ Aside0 (decode_load.j0 kq a0 a0 x4_1 = some r) ∧ Aside0 (kq ≤ k) ∧ Drawn0 w wc)
  case first =>
    have H := HC2.out
    clear HC2
    by_cases c3 : a0 = 0
    · rw [if_pos c3] at H
      have c3b0 : (a0 == 0) = true := beq_iff_eq.mpr c3
      have c3b1 : (a0 != 0) = false := bne_eq_false_iff_eq.mpr c3
      clear c3
      (first | rw [c3b0] | (simp only [i64_w, i32_w]; rw [c3b0]) | skip)
      have H' := Aside0.mk H
      clear H
      go_wp2
      go_meet
      case rel => exact ⟨_, ((a0 == 0)), (by first | rfl | (simp; done) | (simp [*]; done)), H', ⟨by first | omega | exact Nat.le_refl _⟩, by repeat (first | exact Drawn0.refl _ | apply Drawn0.step)⟩
    · rw [if_neg c3] at H
      have c3b0 : (a0 == 0) = false := beq_eq_false_iff_ne.mpr c3
      have c3b1 : (a0 != 0) = true := bne_iff_ne.mpr c3
      (first | rw [c3b0] | (simp only [i64_w, i32_w]; rw [c3b0]) | skip)
      by_cases c4 : a0 = 1
      · rw [if_pos c4] at H
        have c4b0 : (a0 == 1) = true := beq_iff_eq.mpr c4
        have c4b1 : (a0 != 1) = false := bne_eq_false_iff_eq.mpr c4
        clear c4
        have H' := Aside0.mk H
        clear H
        go_wp2
        go_meet
        case rel => exact ⟨_, ((a0 == 1)), (by first | rfl | (simp; done) | (simp [*]; done)), H', ⟨by first | omega | exact Nat.le_refl _⟩, by repeat (first | exact Drawn0.refl _ | apply Drawn0.step)⟩
      · rw [if_neg c4] at H
        have c4b0 : (a0 == 1) = false := beq_eq_false_iff_ne.mpr c4
        have c4b1 : (a0 != 1) = true := bne_iff_ne.mpr c4
        have H' := Aside0.mk H
        clear H
        go_wp2
        go_meet
        case rel => exact ⟨_, ((a0 == 2)), (by first | rfl | (simp; done) | (simp [*]; done)), H', ⟨by first | omega | exact Nat.le_refl _⟩, by repeat (first | exact Drawn0.refl _ | apply Drawn0.step)⟩
  case rest =>
    clear HC2
    try clear p2
    try clear c3
    try clear c3b0
    try clear c3b1
    try clear c4
    try clear c4b0
    try clear c4b1
    obtain ⟨kq, x4_1, rfl, HA, HJ1, ⟨mc1, rfl⟩⟩ := hcut
    cases kq with
    | zero => exact absurd HA.out (by simp [decode_load.j0])
    | succ kj1 =>
      have H := HA.out
      clear HA
      simp only [decode_load.j0] at H
      by_cases c5 : x4_1 = true
      · subst c5
        have H1 : (some (wrap64 (11 + (wrap64 (a0))))) = some r := by rw [if_pos rfl] at H; exact H
        clear H
        have H := H1
        clear H1
        obtain rfl := Option.some.inj H
        go_wp2
        go_ret
        exact ⟨by first | rfl | (simp; done) | (simp [*]; done), by repeat (first | exact Drawn0.refl _ | apply Drawn0.step)⟩
      · replace c5 := Bool.eq_false_iff.mpr c5
        subst c5
        have H1 : (if a0 = 4 then (some (wrap64 ((wrap64 (14 + (wrap64 (a0)))) - 4))) else (if a0 = 5 then (some (wrap64 ((wrap64 (14 + (wrap64 (a0)))) - 4))) else (some 0))) = some r := by rw [if_neg (show ¬ (false = true) by decide)] at H; exact H
        clear H
        have H := H1
        clear H1
        by_cases c6 : a0 = 4
        · rw [if_pos c6] at H
          have c6b0 : (a0 == 4) = true := beq_iff_eq.mpr c6
          have c6b1 : (a0 != 4) = false := bne_eq_false_iff_eq.mpr c6
          clear c6
          obtain rfl := Option.some.inj H
          go_wp2
          go_ret
          exact ⟨by first | rfl | (simp; done) | (simp [*]; done), by repeat (first | exact Drawn0.refl _ | apply Drawn0.step)⟩
        · rw [if_neg c6] at H
          have c6b0 : (a0 == 4) = false := beq_eq_false_iff_ne.mpr c6
          have c6b1 : (a0 != 4) = true := bne_iff_ne.mpr c6
          by_cases c7 : a0 = 5
          · rw [if_pos c7] at H
            have c7b0 : (a0 == 5) = true := beq_iff_eq.mpr c7
            have c7b1 : (a0 != 5) = false := bne_eq_false_iff_eq.mpr c7
            clear c7
            obtain rfl := Option.some.inj H
            go_wp2
            go_ret
            exact ⟨by first | rfl | (simp; done) | (simp [*]; done), by repeat (first | exact Drawn0.refl _ | apply Drawn0.step)⟩
          · rw [if_neg c7] at H
            have c7b0 : (a0 == 5) = false := beq_eq_false_iff_ne.mpr c7
            have c7b1 : (a0 != 5) = true := bne_iff_ne.mpr c7
            obtain rfl := Option.some.inj H
            go_wp2
            go_ret
            exact ⟨by first | rfl | (simp; done) | (simp [*]; done), by repeat (first | exact Drawn0.refl _ | apply Drawn0.step)⟩

/-! decode_immediate -/
def decode_immediate.f (a0 : Int) : Option (Int) := (decode_field.f a0 14 12).bind fun t134 => (if t134 = 0 then (some 19) else (if t134 = 2 then (some 20) else (if t134 = 3 then (some 21) else (if t134 = 4 then (some 22) else (if t134 = 6 then (some 23) else (if t134 = 7 then (some 24) else (if t134 = 1 then (if (a0 / 33554432) = 0 then (some 25) else (some 0)) else (if (a0 / 33554432) = 0 then (some 26) else (if (a0 / 33554432) = 32 then (some 27) else (some 0))))))))))
set_option maxHeartbeats 8000000 in
set_option maxRecDepth 100000 in
theorem decode_immediate.calls (a0 : Int) (r : Int) (w : World) (h : decode_immediate.f a0 = some r) :
    Calls Tryd.prog 99 #[.int .u32 a0] w fun e w' => e = .returned (.int .i64 r) ∧ Drawn0 w w' := by
  have H : ((decode_field.f a0 14 12).bind fun t134 => (if t134 = 0 then (some 19) else (if t134 = 2 then (some 20) else (if t134 = 3 then (some 21) else (if t134 = 4 then (some 22) else (if t134 = 6 then (some 23) else (if t134 = 7 then (some 24) else (if t134 = 1 then (if (a0 / 33554432) = 0 then (some 25) else (some 0)) else (if (a0 / 33554432) = 0 then (some 26) else (if (a0 / 33554432) = 32 then (some 27) else (some 0))))))))))) = some r := h
  clear h
  replace H := Option.bind_eq_some_iff.mp H
  obtain ⟨t134, A20, H⟩ := H
  replace H : (if t134 = 0 then (some 19) else (if t134 = 2 then (some 20) else (if t134 = 3 then (some 21) else (if t134 = 4 then (some 22) else (if t134 = 6 then (some 23) else (if t134 = 7 then (some 24) else (if t134 = 1 then (if (a0 / 33554432) = 0 then (some 25) else (some 0)) else (if (a0 / 33554432) = 0 then (some 26) else (if (a0 / 33554432) = 32 then (some 27) else (some 0)))))))))) = some r := H
  have A2 := Aside0.mk A20
  clear A20
  by_cases c3 : t134 = 0
  · rw [if_pos c3] at H
    have c3b0 : (t134 == 0) = true := beq_iff_eq.mpr c3
    have c3b1 : (t134 != 0) = false := bne_eq_false_iff_eq.mpr c3
    clear c3
    obtain rfl := Option.some.inj H
    go_enter Tryd.func99, Tryd.ntmps99
    go_wp2_with (first | ((with_reducible refine gate_callee (f := 96) rfl ?_); refine goesL_ (some 4) rfl rfl Tryd.func96 (by kernel_rfl) rfl #[.int .u32 a0, .int .u64 14, .int .u64 12] rfl (by (try simp only [List.map_toArray, List.map_cons, List.map_nil]); first | done | rfl | (simp only [List.length_drop, List.length_take]; rfl)) ?_; (with_reducible refine (decode_field.calls a0 14 12 t134 _ A2.out).mono ?_); rintro e w' ⟨rfl, ⟨nd, rfl⟩⟩; refine ⟨_, rfl, ?_⟩))
    go_ret
    exact ⟨by first | rfl | (simp; done) | (simp [*]; done), by repeat (first | exact Drawn0.refl _ | apply Drawn0.step)⟩
  · rw [if_neg c3] at H
    have c3b0 : (t134 == 0) = false := beq_eq_false_iff_ne.mpr c3
    have c3b1 : (t134 != 0) = true := bne_iff_ne.mpr c3
    by_cases c4 : t134 = 2
    · rw [if_pos c4] at H
      have c4b0 : (t134 == 2) = true := beq_iff_eq.mpr c4
      have c4b1 : (t134 != 2) = false := bne_eq_false_iff_eq.mpr c4
      clear c4
      obtain rfl := Option.some.inj H
      go_enter Tryd.func99, Tryd.ntmps99
      go_wp2_with (first | ((with_reducible refine gate_callee (f := 96) rfl ?_); refine goesL_ (some 4) rfl rfl Tryd.func96 (by kernel_rfl) rfl #[.int .u32 a0, .int .u64 14, .int .u64 12] rfl (by (try simp only [List.map_toArray, List.map_cons, List.map_nil]); first | done | rfl | (simp only [List.length_drop, List.length_take]; rfl)) ?_; (with_reducible refine (decode_field.calls a0 14 12 t134 _ A2.out).mono ?_); rintro e w' ⟨rfl, ⟨nd, rfl⟩⟩; refine ⟨_, rfl, ?_⟩))
      go_ret
      exact ⟨by first | rfl | (simp; done) | (simp [*]; done), by repeat (first | exact Drawn0.refl _ | apply Drawn0.step)⟩
    · rw [if_neg c4] at H
      have c4b0 : (t134 == 2) = false := beq_eq_false_iff_ne.mpr c4
      have c4b1 : (t134 != 2) = true := bne_iff_ne.mpr c4
      by_cases c5 : t134 = 3
      · rw [if_pos c5] at H
        have c5b0 : (t134 == 3) = true := beq_iff_eq.mpr c5
        have c5b1 : (t134 != 3) = false := bne_eq_false_iff_eq.mpr c5
        clear c5
        obtain rfl := Option.some.inj H
        go_enter Tryd.func99, Tryd.ntmps99
        go_wp2_with (first | ((with_reducible refine gate_callee (f := 96) rfl ?_); refine goesL_ (some 4) rfl rfl Tryd.func96 (by kernel_rfl) rfl #[.int .u32 a0, .int .u64 14, .int .u64 12] rfl (by (try simp only [List.map_toArray, List.map_cons, List.map_nil]); first | done | rfl | (simp only [List.length_drop, List.length_take]; rfl)) ?_; (with_reducible refine (decode_field.calls a0 14 12 t134 _ A2.out).mono ?_); rintro e w' ⟨rfl, ⟨nd, rfl⟩⟩; refine ⟨_, rfl, ?_⟩))
        go_ret
        exact ⟨by first | rfl | (simp; done) | (simp [*]; done), by repeat (first | exact Drawn0.refl _ | apply Drawn0.step)⟩
      · rw [if_neg c5] at H
        have c5b0 : (t134 == 3) = false := beq_eq_false_iff_ne.mpr c5
        have c5b1 : (t134 != 3) = true := bne_iff_ne.mpr c5
        by_cases c6 : t134 = 4
        · rw [if_pos c6] at H
          have c6b0 : (t134 == 4) = true := beq_iff_eq.mpr c6
          have c6b1 : (t134 != 4) = false := bne_eq_false_iff_eq.mpr c6
          clear c6
          obtain rfl := Option.some.inj H
          go_enter Tryd.func99, Tryd.ntmps99
          go_wp2_with (first | ((with_reducible refine gate_callee (f := 96) rfl ?_); refine goesL_ (some 4) rfl rfl Tryd.func96 (by kernel_rfl) rfl #[.int .u32 a0, .int .u64 14, .int .u64 12] rfl (by (try simp only [List.map_toArray, List.map_cons, List.map_nil]); first | done | rfl | (simp only [List.length_drop, List.length_take]; rfl)) ?_; (with_reducible refine (decode_field.calls a0 14 12 t134 _ A2.out).mono ?_); rintro e w' ⟨rfl, ⟨nd, rfl⟩⟩; refine ⟨_, rfl, ?_⟩))
          go_ret
          exact ⟨by first | rfl | (simp; done) | (simp [*]; done), by repeat (first | exact Drawn0.refl _ | apply Drawn0.step)⟩
        · rw [if_neg c6] at H
          have c6b0 : (t134 == 4) = false := beq_eq_false_iff_ne.mpr c6
          have c6b1 : (t134 != 4) = true := bne_iff_ne.mpr c6
          by_cases c7 : t134 = 6
          · rw [if_pos c7] at H
            have c7b0 : (t134 == 6) = true := beq_iff_eq.mpr c7
            have c7b1 : (t134 != 6) = false := bne_eq_false_iff_eq.mpr c7
            clear c7
            obtain rfl := Option.some.inj H
            go_enter Tryd.func99, Tryd.ntmps99
            go_wp2_with (first | ((with_reducible refine gate_callee (f := 96) rfl ?_); refine goesL_ (some 4) rfl rfl Tryd.func96 (by kernel_rfl) rfl #[.int .u32 a0, .int .u64 14, .int .u64 12] rfl (by (try simp only [List.map_toArray, List.map_cons, List.map_nil]); first | done | rfl | (simp only [List.length_drop, List.length_take]; rfl)) ?_; (with_reducible refine (decode_field.calls a0 14 12 t134 _ A2.out).mono ?_); rintro e w' ⟨rfl, ⟨nd, rfl⟩⟩; refine ⟨_, rfl, ?_⟩))
            go_ret
            exact ⟨by first | rfl | (simp; done) | (simp [*]; done), by repeat (first | exact Drawn0.refl _ | apply Drawn0.step)⟩
          · rw [if_neg c7] at H
            have c7b0 : (t134 == 6) = false := beq_eq_false_iff_ne.mpr c7
            have c7b1 : (t134 != 6) = true := bne_iff_ne.mpr c7
            by_cases c8 : t134 = 7
            · rw [if_pos c8] at H
              have c8b0 : (t134 == 7) = true := beq_iff_eq.mpr c8
              have c8b1 : (t134 != 7) = false := bne_eq_false_iff_eq.mpr c8
              clear c8
              obtain rfl := Option.some.inj H
              go_enter Tryd.func99, Tryd.ntmps99
              go_wp2_with (first | ((with_reducible refine gate_callee (f := 96) rfl ?_); refine goesL_ (some 4) rfl rfl Tryd.func96 (by kernel_rfl) rfl #[.int .u32 a0, .int .u64 14, .int .u64 12] rfl (by (try simp only [List.map_toArray, List.map_cons, List.map_nil]); first | done | rfl | (simp only [List.length_drop, List.length_take]; rfl)) ?_; (with_reducible refine (decode_field.calls a0 14 12 t134 _ A2.out).mono ?_); rintro e w' ⟨rfl, ⟨nd, rfl⟩⟩; refine ⟨_, rfl, ?_⟩))
              go_ret
              exact ⟨by first | rfl | (simp; done) | (simp [*]; done), by repeat (first | exact Drawn0.refl _ | apply Drawn0.step)⟩
            · rw [if_neg c8] at H
              have c8b0 : (t134 == 7) = false := beq_eq_false_iff_ne.mpr c8
              have c8b1 : (t134 != 7) = true := bne_iff_ne.mpr c8
              by_cases c9 : t134 = 1
              · rw [if_pos c9] at H
                have c9b0 : (t134 == 1) = true := beq_iff_eq.mpr c9
                have c9b1 : (t134 != 1) = false := bne_eq_false_iff_eq.mpr c9
                clear c9
                by_cases c10 : (a0 / 33554432) = 0
                · rw [if_pos c10] at H
                  have c10b0 : ((a0 / 33554432) == 0) = true := beq_iff_eq.mpr c10
                  have c10b1 : ((a0 / 33554432) != 0) = false := bne_eq_false_iff_eq.mpr c10
                  clear c10
                  obtain rfl := Option.some.inj H
                  go_enter Tryd.func99, Tryd.ntmps99
                  go_wp2_with (first | ((with_reducible refine gate_callee (f := 96) rfl ?_); refine goesL_ (some 4) rfl rfl Tryd.func96 (by kernel_rfl) rfl #[.int .u32 a0, .int .u64 14, .int .u64 12] rfl (by (try simp only [List.map_toArray, List.map_cons, List.map_nil]); first | done | rfl | (simp only [List.length_drop, List.length_take]; rfl)) ?_; (with_reducible refine (decode_field.calls a0 14 12 t134 _ A2.out).mono ?_); rintro e w' ⟨rfl, ⟨nd, rfl⟩⟩; refine ⟨_, rfl, ?_⟩))
                  go_ret
                  exact ⟨by first | rfl | (simp; done) | (simp [*]; done), by repeat (first | exact Drawn0.refl _ | apply Drawn0.step)⟩
                · rw [if_neg c10] at H
                  have c10b0 : ((a0 / 33554432) == 0) = false := beq_eq_false_iff_ne.mpr c10
                  have c10b1 : ((a0 / 33554432) != 0) = true := bne_iff_ne.mpr c10
                  obtain rfl := Option.some.inj H
                  go_enter Tryd.func99, Tryd.ntmps99
                  go_wp2_with (first | ((with_reducible refine gate_callee (f := 96) rfl ?_); refine goesL_ (some 4) rfl rfl Tryd.func96 (by kernel_rfl) rfl #[.int .u32 a0, .int .u64 14, .int .u64 12] rfl (by (try simp only [List.map_toArray, List.map_cons, List.map_nil]); first | done | rfl | (simp only [List.length_drop, List.length_take]; rfl)) ?_; (with_reducible refine (decode_field.calls a0 14 12 t134 _ A2.out).mono ?_); rintro e w' ⟨rfl, ⟨nd, rfl⟩⟩; refine ⟨_, rfl, ?_⟩))
                  go_ret
                  exact ⟨by first | rfl | (simp; done) | (simp [*]; done), by repeat (first | exact Drawn0.refl _ | apply Drawn0.step)⟩
              · rw [if_neg c9] at H
                have c9b0 : (t134 == 1) = false := beq_eq_false_iff_ne.mpr c9
                have c9b1 : (t134 != 1) = true := bne_iff_ne.mpr c9
                by_cases c11 : (a0 / 33554432) = 0
                · rw [if_pos c11] at H
                  have c11b0 : ((a0 / 33554432) == 0) = true := beq_iff_eq.mpr c11
                  have c11b1 : ((a0 / 33554432) != 0) = false := bne_eq_false_iff_eq.mpr c11
                  clear c11
                  obtain rfl := Option.some.inj H
                  go_enter Tryd.func99, Tryd.ntmps99
                  go_wp2_with (first | ((with_reducible refine gate_callee (f := 96) rfl ?_); refine goesL_ (some 4) rfl rfl Tryd.func96 (by kernel_rfl) rfl #[.int .u32 a0, .int .u64 14, .int .u64 12] rfl (by (try simp only [List.map_toArray, List.map_cons, List.map_nil]); first | done | rfl | (simp only [List.length_drop, List.length_take]; rfl)) ?_; (with_reducible refine (decode_field.calls a0 14 12 t134 _ A2.out).mono ?_); rintro e w' ⟨rfl, ⟨nd, rfl⟩⟩; refine ⟨_, rfl, ?_⟩))
                  go_ret
                  exact ⟨by first | rfl | (simp; done) | (simp [*]; done), by repeat (first | exact Drawn0.refl _ | apply Drawn0.step)⟩
                · rw [if_neg c11] at H
                  have c11b0 : ((a0 / 33554432) == 0) = false := beq_eq_false_iff_ne.mpr c11
                  have c11b1 : ((a0 / 33554432) != 0) = true := bne_iff_ne.mpr c11
                  by_cases c12 : (a0 / 33554432) = 32
                  · rw [if_pos c12] at H
                    have c12b0 : ((a0 / 33554432) == 32) = true := beq_iff_eq.mpr c12
                    have c12b1 : ((a0 / 33554432) != 32) = false := bne_eq_false_iff_eq.mpr c12
                    clear c12
                    obtain rfl := Option.some.inj H
                    go_enter Tryd.func99, Tryd.ntmps99
                    go_wp2_with (first | ((with_reducible refine gate_callee (f := 96) rfl ?_); refine goesL_ (some 4) rfl rfl Tryd.func96 (by kernel_rfl) rfl #[.int .u32 a0, .int .u64 14, .int .u64 12] rfl (by (try simp only [List.map_toArray, List.map_cons, List.map_nil]); first | done | rfl | (simp only [List.length_drop, List.length_take]; rfl)) ?_; (with_reducible refine (decode_field.calls a0 14 12 t134 _ A2.out).mono ?_); rintro e w' ⟨rfl, ⟨nd, rfl⟩⟩; refine ⟨_, rfl, ?_⟩))
                    go_ret
                    exact ⟨by first | rfl | (simp; done) | (simp [*]; done), by repeat (first | exact Drawn0.refl _ | apply Drawn0.step)⟩
                  · rw [if_neg c12] at H
                    have c12b0 : ((a0 / 33554432) == 32) = false := beq_eq_false_iff_ne.mpr c12
                    have c12b1 : ((a0 / 33554432) != 32) = true := bne_iff_ne.mpr c12
                    obtain rfl := Option.some.inj H
                    go_enter Tryd.func99, Tryd.ntmps99
                    go_wp2_with (first | ((with_reducible refine gate_callee (f := 96) rfl ?_); refine goesL_ (some 4) rfl rfl Tryd.func96 (by kernel_rfl) rfl #[.int .u32 a0, .int .u64 14, .int .u64 12] rfl (by (try simp only [List.map_toArray, List.map_cons, List.map_nil]); first | done | rfl | (simp only [List.length_drop, List.length_take]; rfl)) ?_; (with_reducible refine (decode_field.calls a0 14 12 t134 _ A2.out).mono ?_); rintro e w' ⟨rfl, ⟨nd, rfl⟩⟩; refine ⟨_, rfl, ?_⟩))
                    go_ret
                    exact ⟨by first | rfl | (simp; done) | (simp [*]; done), by repeat (first | exact Drawn0.refl _ | apply Drawn0.step)⟩

-- NOT PRINTED: function 100 (decode_registers)

/-! decode_system -/
def decode_system.j0 : Nat → Int → Int → Int → Bool → Option (Int)
  | 0, _, _, _, _ => none
  | k + 1, x0, x3, x6, x7 => if x7 = true then (some (wrap64 ((wrap64 (42 + (wrap64 (x3)))) - 1))) else (if x6 = 5 then (some (wrap64 ((wrap64 (45 + (wrap64 (x3)))) - 5))) else (if x6 = 6 then (some (wrap64 ((wrap64 (45 + (wrap64 (x3)))) - 5))) else (if x6 = 7 then (some (wrap64 ((wrap64 (45 + (wrap64 (x3)))) - 5))) else (if x0 = 115 then (some 40) else (if x0 = 1048691 then (some 41) else (if x0 = 807403635 then (some 48) else (if x0 = 273678451 then (some 49) else (some 0))))))))
def decode_system.f (k : Nat) (a0 : Int) : Option (Int) := (decode_field.f a0 14 12).bind fun t136 => (if t136 = 1 then (decode_system.j0 k a0 t136 t136 (t136 == 1)) else (if t136 = 2 then (decode_system.j0 k a0 t136 t136 (t136 == 2)) else (decode_system.j0 k a0 t136 t136 (t136 == 3))))
theorem decode_system.mono_l : ∀ k, (∀ y0 y1 y2 y3, LeO (decode_system.j0 k y0 y1 y2 y3) (decode_system.j0 (k + 1) y0 y1 y2 y3))
  | 0 => fun _ _ _ _ r h => by simp [decode_system.j0] at h
  | k + 1 => by
    have ih0 := decode_system.mono_l k
    · intro y0 y1 y2 y3
      unfold decode_system.j0
      repeat' first
      | (with_reducible exact ih0 _ _ _ _)
      | (with_reducible exact LeO.refl _)
      | (with_reducible exact LeO.none _)
      | (with_reducible refine LeO.ite ?_ ?_)
      | (with_reducible refine LeO.bind ?_ (fun _ => ?_))
      | exact ih0 _ _ _ _
      | exact LeO.none _
      | refine LeO.ite ?_ ?_
      | refine LeO.bind ?_ (fun _ => ?_)
theorem decode_system.mono : ∀ a0 k, LeO (decode_system.f k a0) (decode_system.f (k + 1) a0) := by
  intro a0 k
  have ih0 := decode_system.mono_l k
  unfold decode_system.f
  repeat' first
      | (with_reducible exact ih0 _ _ _ _)
      | (with_reducible exact LeO.refl _)
      | (with_reducible exact LeO.none _)
      | (with_reducible refine LeO.ite ?_ ?_)
      | (with_reducible refine LeO.bind ?_ (fun _ => ?_))
      | exact ih0 _ _ _ _
      | exact LeO.none _
      | refine LeO.ite ?_ ?_
      | refine LeO.bind ?_ (fun _ => ?_)
set_option maxHeartbeats 8000000 in
set_option maxRecDepth 100000 in
theorem decode_system.calls (k : Nat) (a0 : Int) (r : Int) (w : World) (h : decode_system.f k a0 = some r) :
    Calls Tryd.prog 101 #[.int .u32 a0] w fun e w' => e = .returned (.int .i64 r) ∧ Drawn0 w w' := by
  have H : ((decode_field.f a0 14 12).bind fun t136 => (if t136 = 1 then (decode_system.j0 k a0 t136 t136 (t136 == 1)) else (if t136 = 2 then (decode_system.j0 k a0 t136 t136 (t136 == 2)) else (decode_system.j0 k a0 t136 t136 (t136 == 3))))) = some r := h
  clear h
  replace H := Option.bind_eq_some_iff.mp H
  obtain ⟨t136, A20, H⟩ := H
  replace H : (if t136 = 1 then (decode_system.j0 k a0 t136 t136 (t136 == 1)) else (if t136 = 2 then (decode_system.j0 k a0 t136 t136 (t136 == 2)) else (decode_system.j0 k a0 t136 t136 (t136 == 3)))) = some r := H
  have A2 := Aside0.mk A20
  clear A20
  have HC3 := Aside0.mk H
  clear H
  go_enter Tryd.func101, Tryd.ntmps101
  go_upto_if 7 with (first | ((with_reducible refine gate_callee (f := 96) rfl ?_); refine goesL_ (some 5) rfl rfl Tryd.func96 (by kernel_rfl) rfl #[.int .u32 a0, .int .u64 14, .int .u64 12] rfl (by (try simp only [List.map_toArray, List.map_cons, List.map_nil]); first | done | rfl | (simp only [List.length_drop, List.length_take]; rfl)) ?_; (with_reducible refine (decode_field.calls a0 14 12 t136 _ A2.out).mono ?_); rintro e w' ⟨rfl, ⟨nd, rfl⟩⟩; refine ⟨_, rfl, ?_⟩))
  (try simp only [Act.put, List.setIfInBounds_toArray, List.set_cons_zero, List.set_cons_succ])
  go_cut [7] (fun v7 wc => ∃ (kq : Nat) (x7_2 : Bool), v7 = .bool x7_2 ∧ Aside0 (decode_system.j0 kq a0 t136 t136 x7_2 = some r) ∧ Aside0 (kq ≤ k) ∧ Drawn0 w wc)
  case first =>
    have H := HC3.out
    clear HC3
    by_cases c4 : t136 = 1
    · rw [if_pos c4] at H
      have c4b0 : (t136 == 1) = true := beq_iff_eq.mpr c4
      have c4b1 : (t136 != 1) = false := bne_eq_false_iff_eq.mpr c4
      clear c4
      (first | rw [c4b0] | (simp only [i64_w, i32_w]; rw [c4b0]) | skip)
      have H' := Aside0.mk H
      clear H
      go_wp2
      go_meet
      case rel => exact ⟨_, ((t136 == 1)), (by first | rfl | (simp; done) | (simp [*]; done)), H', ⟨by first | omega | exact Nat.le_refl _⟩, by repeat (first | exact Drawn0.refl _ | apply Drawn0.step)⟩
    · rw [if_neg c4] at H
      have c4b0 : (t136 == 1) = false := beq_eq_false_iff_ne.mpr c4
      have c4b1 : (t136 != 1) = true := bne_iff_ne.mpr c4
      (first | rw [c4b0] | (simp only [i64_w, i32_w]; rw [c4b0]) | skip)
      by_cases c5 : t136 = 2
      · rw [if_pos c5] at H
        have c5b0 : (t136 == 2) = true := beq_iff_eq.mpr c5
        have c5b1 : (t136 != 2) = false := bne_eq_false_iff_eq.mpr c5
        clear c5
        have H' := Aside0.mk H
        clear H
        go_wp2
        go_meet
        case rel => exact ⟨_, ((t136 == 2)), (by first | rfl | (simp; done) | (simp [*]; done)), H', ⟨by first | omega | exact Nat.le_refl _⟩, by repeat (first | exact Drawn0.refl _ | apply Drawn0.step)⟩
      · rw [if_neg c5] at H
        have c5b0 : (t136 == 2) = false := beq_eq_false_iff_ne.mpr c5
        have c5b1 : (t136 != 2) = true := bne_iff_ne.mpr c5
        have H' := Aside0.mk H
        clear H
        go_wp2
        go_meet
        case rel => exact ⟨_, ((t136 == 3)), (by first | rfl | (simp; done) | (simp [*]; done)), H', ⟨by first | omega | exact Nat.le_refl _⟩, by repeat (first | exact Drawn0.refl _ | apply Drawn0.step)⟩
  case rest =>
    clear HC3
    try clear c1
    try clear p2
    try clear c4
    try clear c4b0
    try clear c4b1
    try clear c5
    try clear c5b0
    try clear c5b1
    obtain ⟨kq, x7_2, rfl, HA, HJ2, ⟨mc2, rfl⟩⟩ := hcut
    cases kq with
    | zero => exact absurd HA.out (by simp [decode_system.j0])
    | succ kj2 =>
      have H := HA.out
      clear HA
      simp only [decode_system.j0] at H
      by_cases c6 : x7_2 = true
      · subst c6
        have H1 : (some (wrap64 ((wrap64 (42 + (wrap64 (t136)))) - 1))) = some r := by rw [if_pos rfl] at H; exact H
        clear H
        have H := H1
        clear H1
        obtain rfl := Option.some.inj H
        go_wp2
        go_ret
        exact ⟨by first | rfl | (simp; done) | (simp [*]; done), by repeat (first | exact Drawn0.refl _ | apply Drawn0.step)⟩
      · replace c6 := Bool.eq_false_iff.mpr c6
        subst c6
        have H1 : (if t136 = 5 then (some (wrap64 ((wrap64 (45 + (wrap64 (t136)))) - 5))) else (if t136 = 6 then (some (wrap64 ((wrap64 (45 + (wrap64 (t136)))) - 5))) else (if t136 = 7 then (some (wrap64 ((wrap64 (45 + (wrap64 (t136)))) - 5))) else (if a0 = 115 then (some 40) else (if a0 = 1048691 then (some 41) else (if a0 = 807403635 then (some 48) else (if a0 = 273678451 then (some 49) else (some 0)))))))) = some r := by rw [if_neg (show ¬ (false = true) by decide)] at H; exact H
        clear H
        have H := H1
        clear H1
        by_cases c7 : t136 = 5
        · rw [if_pos c7] at H
          have c7b0 : (t136 == 5) = true := beq_iff_eq.mpr c7
          have c7b1 : (t136 != 5) = false := bne_eq_false_iff_eq.mpr c7
          clear c7
          obtain rfl := Option.some.inj H
          go_wp2
          go_ret
          exact ⟨by first | rfl | (simp; done) | (simp [*]; done), by repeat (first | exact Drawn0.refl _ | apply Drawn0.step)⟩
        · rw [if_neg c7] at H
          have c7b0 : (t136 == 5) = false := beq_eq_false_iff_ne.mpr c7
          have c7b1 : (t136 != 5) = true := bne_iff_ne.mpr c7
          by_cases c8 : t136 = 6
          · rw [if_pos c8] at H
            have c8b0 : (t136 == 6) = true := beq_iff_eq.mpr c8
            have c8b1 : (t136 != 6) = false := bne_eq_false_iff_eq.mpr c8
            clear c8
            obtain rfl := Option.some.inj H
            go_wp2
            go_ret
            exact ⟨by first | rfl | (simp; done) | (simp [*]; done), by repeat (first | exact Drawn0.refl _ | apply Drawn0.step)⟩
          · rw [if_neg c8] at H
            have c8b0 : (t136 == 6) = false := beq_eq_false_iff_ne.mpr c8
            have c8b1 : (t136 != 6) = true := bne_iff_ne.mpr c8
            by_cases c9 : t136 = 7
            · rw [if_pos c9] at H
              have c9b0 : (t136 == 7) = true := beq_iff_eq.mpr c9
              have c9b1 : (t136 != 7) = false := bne_eq_false_iff_eq.mpr c9
              clear c9
              obtain rfl := Option.some.inj H
              go_wp2
              go_ret
              exact ⟨by first | rfl | (simp; done) | (simp [*]; done), by repeat (first | exact Drawn0.refl _ | apply Drawn0.step)⟩
            · rw [if_neg c9] at H
              have c9b0 : (t136 == 7) = false := beq_eq_false_iff_ne.mpr c9
              have c9b1 : (t136 != 7) = true := bne_iff_ne.mpr c9
              by_cases c10 : a0 = 115
              · rw [if_pos c10] at H
                have c10b0 : (a0 == 115) = true := beq_iff_eq.mpr c10
                have c10b1 : (a0 != 115) = false := bne_eq_false_iff_eq.mpr c10
                clear c10
                obtain rfl := Option.some.inj H
                go_wp2
                go_ret
                exact ⟨by first | rfl | (simp; done) | (simp [*]; done), by repeat (first | exact Drawn0.refl _ | apply Drawn0.step)⟩
              · rw [if_neg c10] at H
                have c10b0 : (a0 == 115) = false := beq_eq_false_iff_ne.mpr c10
                have c10b1 : (a0 != 115) = true := bne_iff_ne.mpr c10
                by_cases c11 : a0 = 1048691
                · rw [if_pos c11] at H
                  have c11b0 : (a0 == 1048691) = true := beq_iff_eq.mpr c11
                  have c11b1 : (a0 != 1048691) = false := bne_eq_false_iff_eq.mpr c11
                  clear c11
                  obtain rfl := Option.some.inj H
                  go_wp2
                  go_ret
                  exact ⟨by first | rfl | (simp; done) | (simp [*]; done), by repeat (first | exact Drawn0.refl _ | apply Drawn0.step)⟩
                · rw [if_neg c11] at H
                  have c11b0 : (a0 == 1048691) = false := beq_eq_false_iff_ne.mpr c11
                  have c11b1 : (a0 != 1048691) = true := bne_iff_ne.mpr c11
                  by_cases c12 : a0 = 807403635
                  · rw [if_pos c12] at H
                    have c12b0 : (a0 == 807403635) = true := beq_iff_eq.mpr c12
                    have c12b1 : (a0 != 807403635) = false := bne_eq_false_iff_eq.mpr c12
                    clear c12
                    obtain rfl := Option.some.inj H
                    go_wp2
                    go_ret
                    exact ⟨by first | rfl | (simp; done) | (simp [*]; done), by repeat (first | exact Drawn0.refl _ | apply Drawn0.step)⟩
                  · rw [if_neg c12] at H
                    have c12b0 : (a0 == 807403635) = false := beq_eq_false_iff_ne.mpr c12
                    have c12b1 : (a0 != 807403635) = true := bne_iff_ne.mpr c12
                    by_cases c13 : a0 = 273678451
                    · rw [if_pos c13] at H
                      have c13b0 : (a0 == 273678451) = true := beq_iff_eq.mpr c13
                      have c13b1 : (a0 != 273678451) = false := bne_eq_false_iff_eq.mpr c13
                      clear c13
                      obtain rfl := Option.some.inj H
                      go_wp2
                      go_ret
                      exact ⟨by first | rfl | (simp; done) | (simp [*]; done), by repeat (first | exact Drawn0.refl _ | apply Drawn0.step)⟩
                    · rw [if_neg c13] at H
                      have c13b0 : (a0 == 273678451) = false := beq_eq_false_iff_ne.mpr c13
                      have c13b1 : (a0 != 273678451) = true := bne_iff_ne.mpr c13
                      obtain rfl := Option.some.inj H
                      go_wp2
                      go_ret
                      exact ⟨by first | rfl | (simp; done) | (simp [*]; done), by repeat (first | exact Drawn0.refl _ | apply Drawn0.step)⟩

-- NOT PRINTED: function 79 (decode_kind)

/-! decode_top -/
def decode_top.f (a0 : Int) (a1 : Int) : Option (Int) := if 0 ≤ a1 then (some ((shl .i32 ((wrap32 (a0)) / 2147483648) a1) % 4294967296)) else (none)
set_option maxHeartbeats 8000000 in
set_option maxRecDepth 100000 in
theorem decode_top.calls (a0 : Int) (a1 : Int) (r : Int) (w : World) (h : decode_top.f a0 a1 = some r) :
    Calls Tryd.prog 107 #[.int .u32 a0, .int .u64 a1] w fun e w' => e = .returned (.int .u32 r) ∧ Drawn0 w w' := by
  have H : (if 0 ≤ a1 then (some ((shl .i32 ((wrap32 (a0)) / 2147483648) a1) % 4294967296)) else (none)) = some r := h
  clear h
  by_cases c3 : 0 ≤ a1
  · rw [if_pos c3] at H
    have c3b0 := eq_true c3
    have c3b1 : decide (0 ≤ a1) = true := decide_eq_true c3
    clear c3
    obtain ⟨ji4, hji4⟩ : ∃ j_ : Int, (shl .i32 ((wrap32 (a0)) / 2147483648) a1) = j_ := ⟨_, rfl⟩
    replace H : (some ((ji4) % 4294967296)) = some r := by first | (rw [hji4] at H; exact H) | (simp only [hji4] at H ⊢; exact H)
    have hji4_ : (IntKind.i32.wrap (((wrap32 (a0)) / 2147483648) * 2 ^ min a1.toNat 32)) = ji4 := hji4
    have hji4z : a1 ≤ 32 → (IntKind.i32.wrap (((wrap32 (a0)) / 2147483648) * 2 ^ a1.toNat)) = ji4 := shl_small hji4
    have hji4y : (wrap32 (((wrap32 (a0)) / 2147483648) * 2 ^ min a1.toNat 32)) = ji4 := (i32_w _).symm.trans hji4_
    have hji4x : a1 ≤ 32 → (wrap32 (((wrap32 (a0)) / 2147483648) * 2 ^ a1.toNat)) = ji4 := fun h_ => (i32_w _).symm.trans (hji4z h_)
    obtain rfl := Option.some.inj H
    go_enter Tryd.func107, Tryd.ntmps107
    go_wp2
    go_ret
    exact ⟨by first | rfl | (simp; done) | (simp only [← hji4] <;> (first | rfl | simp)) | (simp [*]; done), by repeat (first | exact Drawn0.refl _ | apply Drawn0.step)⟩
  · rw [if_neg c3] at H
    exact absurd H (by simp)

/-! decode_number -/
def decode_number.f (a0 : Int) (a1 : Int) : Option (Int) := if a1 = 1 then (some (Go.bits .andNot .u32 a0 4095)) else (if a1 = 2 then ((decode_top.f a0 20).bind fun t141 => ((decode_field.f a0 19 12).bind fun t142 => ((decode_field.f a0 20 20).bind fun t143 => ((decode_field.f a0 30 21).bind fun t144 => (some (Go.bits .or .u32 (Go.bits .or .u32 (Go.bits .or .u32 t141 ((t142 * 4096) % 4294967296)) ((t143 * 2048) % 4294967296)) ((t144 * 2) % 4294967296))))))) else (if a1 = 3 then (some (((wrap32 (a0)) / 1048576) % 4294967296)) else (if a1 = 4 then ((decode_top.f a0 12).bind fun t145 => ((decode_field.f a0 7 7).bind fun t146 => ((decode_field.f a0 30 25).bind fun t147 => ((decode_field.f a0 11 8).bind fun t148 => (some (Go.bits .or .u32 (Go.bits .or .u32 (Go.bits .or .u32 t145 ((t146 * 2048) % 4294967296)) ((t147 * 32) % 4294967296)) ((t148 * 2) % 4294967296))))))) else (if a1 = 5 then ((decode_top.f a0 11).bind fun t149 => ((decode_field.f a0 30 25).bind fun t150 => ((decode_field.f a0 11 7).bind fun t151 => (some (Go.bits .or .u32 (Go.bits .or .u32 t149 ((t150 * 32) % 4294967296)) t151))))) else (if a1 = 7 then ((decode_field.f a0 24 20).bind fun t152 => (some t152)) else (if a1 = 9 then ((decode_field.f a0 19 15).bind fun t153 => (some t153)) else (some 0)))))))
set_option maxHeartbeats 8000000 in
set_option maxRecDepth 100000 in
theorem decode_number.calls (a0 : Int) (a1 : Int) (r : Int) (w : World) (h : decode_number.f a0 a1 = some r) :
    Calls Tryd.prog 102 #[.int .u32 a0, .int .i64 a1] w fun e w' => e = .returned (.int .u32 r) ∧ Drawn0 w w' := by
  have H : (if a1 = 1 then (some (Go.bits .andNot .u32 a0 4095)) else (if a1 = 2 then ((decode_top.f a0 20).bind fun t141 => ((decode_field.f a0 19 12).bind fun t142 => ((decode_field.f a0 20 20).bind fun t143 => ((decode_field.f a0 30 21).bind fun t144 => (some (Go.bits .or .u32 (Go.bits .or .u32 (Go.bits .or .u32 t141 ((t142 * 4096) % 4294967296)) ((t143 * 2048) % 4294967296)) ((t144 * 2) % 4294967296))))))) else (if a1 = 3 then (some (((wrap32 (a0)) / 1048576) % 4294967296)) else (if a1 = 4 then ((decode_top.f a0 12).bind fun t145 => ((decode_field.f a0 7 7).bind fun t146 => ((decode_field.f a0 30 25).bind fun t147 => ((decode_field.f a0 11 8).bind fun t148 => (some (Go.bits .or .u32 (Go.bits .or .u32 (Go.bits .or .u32 t145 ((t146 * 2048) % 4294967296)) ((t147 * 32) % 4294967296)) ((t148 * 2) % 4294967296))))))) else (if a1 = 5 then ((decode_top.f a0 11).bind fun t149 => ((decode_field.f a0 30 25).bind fun t150 => ((decode_field.f a0 11 7).bind fun t151 => (some (Go.bits .or .u32 (Go.bits .or .u32 t149 ((t150 * 32) % 4294967296)) t151))))) else (if a1 = 7 then ((decode_field.f a0 24 20).bind fun t152 => (some t152)) else (if a1 = 9 then ((decode_field.f a0 19 15).bind fun t153 => (some t153)) else (some 0)))))))) = some r := h
  clear h
  by_cases c3 : a1 = 1
  · rw [if_pos c3] at H
    have c3b0 : (a1 == 1) = true := beq_iff_eq.mpr c3
    have c3b1 : (a1 != 1) = false := bne_eq_false_iff_eq.mpr c3
    clear c3
    obtain rfl := Option.some.inj H
    go_enter Tryd.func102, Tryd.ntmps102
    go_wp2
    go_ret
    exact ⟨by first | rfl | (simp; done) | (simp [*]; done), by repeat (first | exact Drawn0.refl _ | apply Drawn0.step)⟩
  · rw [if_neg c3] at H
    have c3b0 : (a1 == 1) = false := beq_eq_false_iff_ne.mpr c3
    have c3b1 : (a1 != 1) = true := bne_iff_ne.mpr c3
    by_cases c4 : a1 = 2
    · rw [if_pos c4] at H
      have c4b0 : (a1 == 2) = true := beq_iff_eq.mpr c4
      have c4b1 : (a1 != 2) = false := bne_eq_false_iff_eq.mpr c4
      clear c4
      replace H := Option.bind_eq_some_iff.mp H
      obtain ⟨t141, A50, H⟩ := H
      replace H : ((decode_field.f a0 19 12).bind fun t142 => ((decode_field.f a0 20 20).bind fun t143 => ((decode_field.f a0 30 21).bind fun t144 => (some (Go.bits .or .u32 (Go.bits .or .u32 (Go.bits .or .u32 t141 ((t142 * 4096) % 4294967296)) ((t143 * 2048) % 4294967296)) ((t144 * 2) % 4294967296)))))) = some r := H
      have A5 := Aside0.mk A50
      clear A50
      replace H := Option.bind_eq_some_iff.mp H
      obtain ⟨t142, A60, H⟩ := H
      replace H : ((decode_field.f a0 20 20).bind fun t143 => ((decode_field.f a0 30 21).bind fun t144 => (some (Go.bits .or .u32 (Go.bits .or .u32 (Go.bits .or .u32 t141 ((t142 * 4096) % 4294967296)) ((t143 * 2048) % 4294967296)) ((t144 * 2) % 4294967296))))) = some r := H
      have A6 := Aside0.mk A60
      clear A60
      replace H := Option.bind_eq_some_iff.mp H
      obtain ⟨t143, A70, H⟩ := H
      replace H : ((decode_field.f a0 30 21).bind fun t144 => (some (Go.bits .or .u32 (Go.bits .or .u32 (Go.bits .or .u32 t141 ((t142 * 4096) % 4294967296)) ((t143 * 2048) % 4294967296)) ((t144 * 2) % 4294967296)))) = some r := H
      have A7 := Aside0.mk A70
      clear A70
      replace H := Option.bind_eq_some_iff.mp H
      obtain ⟨t144, A80, H⟩ := H
      replace H : (some (Go.bits .or .u32 (Go.bits .or .u32 (Go.bits .or .u32 t141 ((t142 * 4096) % 4294967296)) ((t143 * 2048) % 4294967296)) ((t144 * 2) % 4294967296))) = some r := H
      have A8 := Aside0.mk A80
      clear A80
      obtain rfl := Option.some.inj H
      go_enter Tryd.func102, Tryd.ntmps102
      go_wp2_with (first | ((with_reducible refine gate_callee (f := 107) rfl ?_); refine goesL_ (some 13) rfl rfl Tryd.func107 (by kernel_rfl) rfl #[.int .u32 a0, .int .u64 20] rfl (by (try simp only [List.map_toArray, List.map_cons, List.map_nil]); first | done | rfl | (simp only [List.length_drop, List.length_take]; rfl)) ?_; (with_reducible refine (decode_top.calls a0 20 t141 _ A5.out).mono ?_); rintro e w' ⟨rfl, ⟨nd, rfl⟩⟩; refine ⟨_, rfl, ?_⟩) | ((with_reducible refine gate_callee (f := 96) rfl ?_); refine goesL_ (some 15) rfl rfl Tryd.func96 (by kernel_rfl) rfl #[.int .u32 a0, .int .u64 19, .int .u64 12] rfl (by (try simp only [List.map_toArray, List.map_cons, List.map_nil]); first | done | rfl | (simp only [List.length_drop, List.length_take]; rfl)) ?_; (with_reducible refine (decode_field.calls a0 19 12 t142 _ A6.out).mono ?_); rintro e w' ⟨rfl, ⟨nd, rfl⟩⟩; refine ⟨_, rfl, ?_⟩) | ((with_reducible refine gate_callee (f := 96) rfl ?_); refine goesL_ (some 19) rfl rfl Tryd.func96 (by kernel_rfl) rfl #[.int .u32 a0, .int .u64 20, .int .u64 20] rfl (by (try simp only [List.map_toArray, List.map_cons, List.map_nil]); first | done | rfl | (simp only [List.length_drop, List.length_take]; rfl)) ?_; (with_reducible refine (decode_field.calls a0 20 20 t143 _ A7.out).mono ?_); rintro e w' ⟨rfl, ⟨nd, rfl⟩⟩; refine ⟨_, rfl, ?_⟩) | ((with_reducible refine gate_callee (f := 96) rfl ?_); refine goesL_ (some 23) rfl rfl Tryd.func96 (by kernel_rfl) rfl #[.int .u32 a0, .int .u64 30, .int .u64 21] rfl (by (try simp only [List.map_toArray, List.map_cons, List.map_nil]); first | done | rfl | (simp only [List.length_drop, List.length_take]; rfl)) ?_; (with_reducible refine (decode_field.calls a0 30 21 t144 _ A8.out).mono ?_); rintro e w' ⟨rfl, ⟨nd, rfl⟩⟩; refine ⟨_, rfl, ?_⟩))
      go_ret
      exact ⟨by first | rfl | (simp; done) | (simp [*]; done), by repeat (first | exact Drawn0.refl _ | apply Drawn0.step)⟩
    · rw [if_neg c4] at H
      have c4b0 : (a1 == 2) = false := beq_eq_false_iff_ne.mpr c4
      have c4b1 : (a1 != 2) = true := bne_iff_ne.mpr c4
      by_cases c9 : a1 = 3
      · rw [if_pos c9] at H
        have c9b0 : (a1 == 3) = true := beq_iff_eq.mpr c9
        have c9b1 : (a1 != 3) = false := bne_eq_false_iff_eq.mpr c9
        clear c9
        obtain rfl := Option.some.inj H
        go_enter Tryd.func102, Tryd.ntmps102
        go_wp2
        go_ret
        exact ⟨by first | rfl | (simp; done) | (simp [*]; done), by repeat (first | exact Drawn0.refl _ | apply Drawn0.step)⟩
      · rw [if_neg c9] at H
        have c9b0 : (a1 == 3) = false := beq_eq_false_iff_ne.mpr c9
        have c9b1 : (a1 != 3) = true := bne_iff_ne.mpr c9
        by_cases c10 : a1 = 4
        · rw [if_pos c10] at H
          have c10b0 : (a1 == 4) = true := beq_iff_eq.mpr c10
          have c10b1 : (a1 != 4) = false := bne_eq_false_iff_eq.mpr c10
          clear c10
          replace H := Option.bind_eq_some_iff.mp H
          obtain ⟨t145, A110, H⟩ := H
          replace H : ((decode_field.f a0 7 7).bind fun t146 => ((decode_field.f a0 30 25).bind fun t147 => ((decode_field.f a0 11 8).bind fun t148 => (some (Go.bits .or .u32 (Go.bits .or .u32 (Go.bits .or .u32 t145 ((t146 * 2048) % 4294967296)) ((t147 * 32) % 4294967296)) ((t148 * 2) % 4294967296)))))) = some r := H
          have A11 := Aside0.mk A110
          clear A110
          replace H := Option.bind_eq_some_iff.mp H
          obtain ⟨t146, A120, H⟩ := H
          replace H : ((decode_field.f a0 30 25).bind fun t147 => ((decode_field.f a0 11 8).bind fun t148 => (some (Go.bits .or .u32 (Go.bits .or .u32 (Go.bits .or .u32 t145 ((t146 * 2048) % 4294967296)) ((t147 * 32) % 4294967296)) ((t148 * 2) % 4294967296))))) = some r := H
          have A12 := Aside0.mk A120
          clear A120
          replace H := Option.bind_eq_some_iff.mp H
          obtain ⟨t147, A130, H⟩ := H
          replace H : ((decode_field.f a0 11 8).bind fun t148 => (some (Go.bits .or .u32 (Go.bits .or .u32 (Go.bits .or .u32 t145 ((t146 * 2048) % 4294967296)) ((t147 * 32) % 4294967296)) ((t148 * 2) % 4294967296)))) = some r := H
          have A13 := Aside0.mk A130
          clear A130
          replace H := Option.bind_eq_some_iff.mp H
          obtain ⟨t148, A140, H⟩ := H
          replace H : (some (Go.bits .or .u32 (Go.bits .or .u32 (Go.bits .or .u32 t145 ((t146 * 2048) % 4294967296)) ((t147 * 32) % 4294967296)) ((t148 * 2) % 4294967296))) = some r := H
          have A14 := Aside0.mk A140
          clear A140
          obtain rfl := Option.some.inj H
          go_enter Tryd.func102, Tryd.ntmps102
          go_wp2_with (first | ((with_reducible refine gate_callee (f := 107) rfl ?_); refine goesL_ (some 35) rfl rfl Tryd.func107 (by kernel_rfl) rfl #[.int .u32 a0, .int .u64 12] rfl (by (try simp only [List.map_toArray, List.map_cons, List.map_nil]); first | done | rfl | (simp only [List.length_drop, List.length_take]; rfl)) ?_; (with_reducible refine (decode_top.calls a0 12 t145 _ A11.out).mono ?_); rintro e w' ⟨rfl, ⟨nd, rfl⟩⟩; refine ⟨_, rfl, ?_⟩) | ((with_reducible refine gate_callee (f := 96) rfl ?_); refine goesL_ (some 37) rfl rfl Tryd.func96 (by kernel_rfl) rfl #[.int .u32 a0, .int .u64 7, .int .u64 7] rfl (by (try simp only [List.map_toArray, List.map_cons, List.map_nil]); first | done | rfl | (simp only [List.length_drop, List.length_take]; rfl)) ?_; (with_reducible refine (decode_field.calls a0 7 7 t146 _ A12.out).mono ?_); rintro e w' ⟨rfl, ⟨nd, rfl⟩⟩; refine ⟨_, rfl, ?_⟩) | ((with_reducible refine gate_callee (f := 96) rfl ?_); refine goesL_ (some 41) rfl rfl Tryd.func96 (by kernel_rfl) rfl #[.int .u32 a0, .int .u64 30, .int .u64 25] rfl (by (try simp only [List.map_toArray, List.map_cons, List.map_nil]); first | done | rfl | (simp only [List.length_drop, List.length_take]; rfl)) ?_; (with_reducible refine (decode_field.calls a0 30 25 t147 _ A13.out).mono ?_); rintro e w' ⟨rfl, ⟨nd, rfl⟩⟩; refine ⟨_, rfl, ?_⟩) | ((with_reducible refine gate_callee (f := 96) rfl ?_); refine goesL_ (some 45) rfl rfl Tryd.func96 (by kernel_rfl) rfl #[.int .u32 a0, .int .u64 11, .int .u64 8] rfl (by (try simp only [List.map_toArray, List.map_cons, List.map_nil]); first | done | rfl | (simp only [List.length_drop, List.length_take]; rfl)) ?_; (with_reducible refine (decode_field.calls a0 11 8 t148 _ A14.out).mono ?_); rintro e w' ⟨rfl, ⟨nd, rfl⟩⟩; refine ⟨_, rfl, ?_⟩))
          go_ret
          exact ⟨by first | rfl | (simp; done) | (simp [*]; done), by repeat (first | exact Drawn0.refl _ | apply Drawn0.step)⟩
        · rw [if_neg c10] at H
          have c10b0 : (a1 == 4) = false := beq_eq_false_iff_ne.mpr c10
          have c10b1 : (a1 != 4) = true := bne_iff_ne.mpr c10
          by_cases c15 : a1 = 5
          · rw [if_pos c15] at H
            have c15b0 : (a1 == 5) = true := beq_iff_eq.mpr c15
            have c15b1 : (a1 != 5) = false := bne_eq_false_iff_eq.mpr c15
            clear c15
            replace H := Option.bind_eq_some_iff.mp H
            obtain ⟨t149, A160, H⟩ := H
            replace H : ((decode_field.f a0 30 25).bind fun t150 => ((decode_field.f a0 11 7).bind fun t151 => (some (Go.bits .or .u32 (Go.bits .or .u32 t149 ((t150 * 32) % 4294967296)) t151)))) = some r := H
            have A16 := Aside0.mk A160
            clear A160
            replace H := Option.bind_eq_some_iff.mp H
            obtain ⟨t150, A170, H⟩ := H
            replace H : ((decode_field.f a0 11 7).bind fun t151 => (some (Go.bits .or .u32 (Go.bits .or .u32 t149 ((t150 * 32) % 4294967296)) t151))) = some r := H
            have A17 := Aside0.mk A170
            clear A170
            replace H := Option.bind_eq_some_iff.mp H
            obtain ⟨t151, A180, H⟩ := H
            replace H : (some (Go.bits .or .u32 (Go.bits .or .u32 t149 ((t150 * 32) % 4294967296)) t151)) = some r := H
            have A18 := Aside0.mk A180
            clear A180
            obtain rfl := Option.some.inj H
            go_enter Tryd.func102, Tryd.ntmps102
            go_wp2_with (first | ((with_reducible refine gate_callee (f := 107) rfl ?_); refine goesL_ (some 51) rfl rfl Tryd.func107 (by kernel_rfl) rfl #[.int .u32 a0, .int .u64 11] rfl (by (try simp only [List.map_toArray, List.map_cons, List.map_nil]); first | done | rfl | (simp only [List.length_drop, List.length_take]; rfl)) ?_; (with_reducible refine (decode_top.calls a0 11 t149 _ A16.out).mono ?_); rintro e w' ⟨rfl, ⟨nd, rfl⟩⟩; refine ⟨_, rfl, ?_⟩) | ((with_reducible refine gate_callee (f := 96) rfl ?_); refine goesL_ (some 53) rfl rfl Tryd.func96 (by kernel_rfl) rfl #[.int .u32 a0, .int .u64 30, .int .u64 25] rfl (by (try simp only [List.map_toArray, List.map_cons, List.map_nil]); first | done | rfl | (simp only [List.length_drop, List.length_take]; rfl)) ?_; (with_reducible refine (decode_field.calls a0 30 25 t150 _ A17.out).mono ?_); rintro e w' ⟨rfl, ⟨nd, rfl⟩⟩; refine ⟨_, rfl, ?_⟩) | ((with_reducible refine gate_callee (f := 96) rfl ?_); refine goesL_ (some 57) rfl rfl Tryd.func96 (by kernel_rfl) rfl #[.int .u32 a0, .int .u64 11, .int .u64 7] rfl (by (try simp only [List.map_toArray, List.map_cons, List.map_nil]); first | done | rfl | (simp only [List.length_drop, List.length_take]; rfl)) ?_; (with_reducible refine (decode_field.calls a0 11 7 t151 _ A18.out).mono ?_); rintro e w' ⟨rfl, ⟨nd, rfl⟩⟩; refine ⟨_, rfl, ?_⟩))
            go_ret
            exact ⟨by first | rfl | (simp; done) | (simp [*]; done), by repeat (first | exact Drawn0.refl _ | apply Drawn0.step)⟩
          · rw [if_neg c15] at H
            have c15b0 : (a1 == 5) = false := beq_eq_false_iff_ne.mpr c15
            have c15b1 : (a1 != 5) = true := bne_iff_ne.mpr c15
            by_cases c19 : a1 = 7
            · rw [if_pos c19] at H
              have c19b0 : (a1 == 7) = true := beq_iff_eq.mpr c19
              have c19b1 : (a1 != 7) = false := bne_eq_false_iff_eq.mpr c19
              clear c19
              replace H := Option.bind_eq_some_iff.mp H
              obtain ⟨t152, A200, H⟩ := H
              replace H : (some t152) = some r := H
              have A20 := Aside0.mk A200
              clear A200
              obtain rfl := Option.some.inj H
              go_enter Tryd.func102, Tryd.ntmps102
              go_wp2_with (first | ((with_reducible refine gate_callee (f := 96) rfl ?_); refine goesL_ (some 62) rfl rfl Tryd.func96 (by kernel_rfl) rfl #[.int .u32 a0, .int .u64 24, .int .u64 20] rfl (by (try simp only [List.map_toArray, List.map_cons, List.map_nil]); first | done | rfl | (simp only [List.length_drop, List.length_take]; rfl)) ?_; (with_reducible refine (decode_field.calls a0 24 20 t152 _ A20.out).mono ?_); rintro e w' ⟨rfl, ⟨nd, rfl⟩⟩; refine ⟨_, rfl, ?_⟩))
              go_ret
              exact ⟨by first | rfl | (simp; done) | (simp [*]; done), by repeat (first | exact Drawn0.refl _ | apply Drawn0.step)⟩
            · rw [if_neg c19] at H
              have c19b0 : (a1 == 7) = false := beq_eq_false_iff_ne.mpr c19
              have c19b1 : (a1 != 7) = true := bne_iff_ne.mpr c19
              by_cases c21 : a1 = 9
              · rw [if_pos c21] at H
                have c21b0 : (a1 == 9) = true := beq_iff_eq.mpr c21
                have c21b1 : (a1 != 9) = false := bne_eq_false_iff_eq.mpr c21
                clear c21
                replace H := Option.bind_eq_some_iff.mp H
                obtain ⟨t153, A220, H⟩ := H
                replace H : (some t153) = some r := H
                have A22 := Aside0.mk A220
                clear A220
                obtain rfl := Option.some.inj H
                go_enter Tryd.func102, Tryd.ntmps102
                go_wp2_with (first | ((with_reducible refine gate_callee (f := 96) rfl ?_); refine goesL_ (some 66) rfl rfl Tryd.func96 (by kernel_rfl) rfl #[.int .u32 a0, .int .u64 19, .int .u64 15] rfl (by (try simp only [List.map_toArray, List.map_cons, List.map_nil]); first | done | rfl | (simp only [List.length_drop, List.length_take]; rfl)) ?_; (with_reducible refine (decode_field.calls a0 19 15 t153 _ A22.out).mono ?_); rintro e w' ⟨rfl, ⟨nd, rfl⟩⟩; refine ⟨_, rfl, ?_⟩))
                go_ret
                exact ⟨by first | rfl | (simp; done) | (simp [*]; done), by repeat (first | exact Drawn0.refl _ | apply Drawn0.step)⟩
              · rw [if_neg c21] at H
                have c21b0 : (a1 == 9) = false := beq_eq_false_iff_ne.mpr c21
                have c21b1 : (a1 != 9) = true := bne_iff_ne.mpr c21
                obtain rfl := Option.some.inj H
                go_enter Tryd.func102, Tryd.ntmps102
                go_wp2
                go_ret
                exact ⟨by first | rfl | (simp; done) | (simp [*]; done), by repeat (first | exact Drawn0.refl _ | apply Drawn0.step)⟩

-- NOT PRINTED: function 80 (decode_laid)

-- NOT PRINTED: function 56 (decode_Decode)

-- NOT PRINTED: function 25 (disasm_Word)

-- NOT PRINTED: function 21 (mimesislaw05_awake)

end Go.Proofs.YtnooikjkjcflbadDoor.PDisasmWords
