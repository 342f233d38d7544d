/- Functions of the program as plain functions, and contracts of them: printed by the kit's print for this seat, cut into a text of our own. Conditions: the plain function answers. -/
import Derived.Test.YtnooikjkjcflbabDoorPDecodeWordsx2
namespace Go.Proofs.YtnooikjkjcflbabDoor.PDecodeWords
open Go.RowKit Go.Proofs.YtnooikjkjcflbabDoorW.PrintWords Go.Proofs.YtnooikjkjcflbabDoorW.PrintLast Go.Proofs.YtnooikjkjcflbabDoorW.PrintMore
attribute [local go_sem] max2_int min2_int max_two min_two max_three min_three max_four min_four
set_option linter.unusedVariables false
set_option linter.unusedSimpArgs false

/-! mimesisref01_Power -/
def mimesisref01_Power.l0 : Nat → Int → Int → Int → Option (Int)
  | 0, _, _, _ => none
  | k + 1, x0, x3, x4 => if x4 < x0 then (mimesisref01_Power.l0 k x0 (IntKind.u64.wrap (x3 * 2)) (wrap64 (x4 + 1))) else (some x3)
def mimesisref01_Power.f (k : Nat) (a0 : Int) : Option (Int) := mimesisref01_Power.l0 k a0 1 0
theorem mimesisref01_Power.mono_l : ∀ k, (∀ y0 y1 y2, LeO (mimesisref01_Power.l0 k y0 y1 y2) (mimesisref01_Power.l0 (k + 1) y0 y1 y2))
  | 0 => fun _ _ _ r h => by simp [mimesisref01_Power.l0] at h
  | k + 1 => by
    have ih0 := mimesisref01_Power.mono_l k
    · intro y0 y1 y2
      unfold mimesisref01_Power.l0
      repeat' first
      | (with_reducible exact ih0 _ _ _)
      | (with_reducible exact LeO.refl _)
      | (with_reducible exact LeO.none _)
      | (with_reducible refine LeO.ite ?_ ?_)
      | (with_reducible refine LeO.bind ?_ (fun _ => ?_))
      | exact ih0 _ _ _
      | exact LeO.none _
      | refine LeO.ite ?_ ?_
      | refine LeO.bind ?_ (fun _ => ?_)
theorem mimesisref01_Power.mono : ∀ a0 k, LeO (mimesisref01_Power.f k a0) (mimesisref01_Power.f (k + 1) a0) := by
  intro a0 k
  have ih0 := mimesisref01_Power.mono_l k
  unfold mimesisref01_Power.f
  repeat' first
      | (with_reducible exact ih0 _ _ _)
      | (with_reducible exact LeO.refl _)
      | (with_reducible exact LeO.none _)
      | (with_reducible refine LeO.ite ?_ ?_)
      | (with_reducible refine LeO.bind ?_ (fun _ => ?_))
      | exact ih0 _ _ _
      | exact LeO.none _
      | refine LeO.ite ?_ ?_
      | refine LeO.bind ?_ (fun _ => ?_)
set_option maxHeartbeats 8000000 in
set_option maxRecDepth 100000 in
theorem mimesisref01_Power.calls (k : Nat) (a0 : Int) (r : Int) (w : World) (h : mimesisref01_Power.f k a0 = some r) :
    Calls Tryd.prog 67 #[.int .i64 a0] w fun e w' => e = .returned (.int .u64 r) ∧ Drawn0 w w' := by
  have H : (mimesisref01_Power.l0 k a0 1 0) = some r := h
  clear h
  have H' := Aside0.mk H
  clear H
  go_enter Tryd.func67, Tryd.ntmps67
  go_wp2
  go_loopg [3, 4] k (fun kq v3 v4 w' => ∃ (x3_1 : Int) (x4_1 : Int), v3 = .int .u64 x3_1 ∧ v4 = .int .i64 x4_1 ∧ Aside0 (mimesisref01_Power.l0 kq a0 x3_1 x4_1 = some r) ∧ Aside0 (kq ≤ k) ∧ Drawn0 w w')
  case atStart => exact ⟨(1), (0), (by first | rfl | (simp; done) | (simp [*]; done)), (by first | rfl | (simp; done) | (simp [*]; done)), H', ⟨Nat.le_refl _⟩, by repeat (first | exact Drawn0.refl _ | apply Drawn0.step)⟩
  case round =>
    clear H'
    obtain ⟨x3_1, x4_1, rfl, rfl, HA, HK1, ⟨m1, rfl⟩⟩ := hrel
    cases gk with
    | zero => exact absurd HA.out (by simp [mimesisref01_Power.l0])
    | succ k1 =>
      have H := HA.out
      clear HA
      simp only [mimesisref01_Power.l0] at H
      by_cases c2 : x4_1 < a0
      · rw [if_pos c2] at H
        have c2b0 : decide (x4_1 < a0) = true := decide_eq_true c2
        clear c2
        have H' := Aside0.mk H
        clear H
        go_wp2
        go_roundg k1
        case measure => have := HK1.out; omega
        case rel => exact ⟨(IntKind.u64.wrap (x3_1 * 2)), (wrap64 (x4_1 + 1)), (by first | rfl | (simp; done) | (simp [*]; done)), (by first | rfl | (simp; done) | (simp [*]; done)), H', ⟨by have := HK1.out; omega⟩, by repeat (first | exact Drawn0.refl _ | apply Drawn0.step)⟩
      · rw [if_neg c2] at H
        have c2b0 : decide (x4_1 < a0) = false := decide_eq_false c2
        clear c2
        obtain rfl := Option.some.inj H
        go_wp2
        go_ret
        exact ⟨by first | rfl | (simp; done) | (simp [*]; done), by repeat (first | exact Drawn0.refl _ | apply Drawn0.step)⟩

/-! mimesisref01_Extend -/
def mimesisref01_Extend.f (k : Nat) (a0 : Int) (a1 : Int) : Option (Int) := (mimesisref01_Power.f k a1).bind fun t104 => (if t104 = 0 then (none) else ((mimesisref01_Power.f k (wrap64 (a1 - 1))).bind fun t105 => (if (Int.tmod (IntKind.u64.wrap (a0)) t104) ≥ t105 then ((mimesisref01_Power.f k 32).bind fun t106 => ((mimesisref01_Power.f k a1).bind fun t107 => (some ((IntKind.u64.wrap ((IntKind.u64.wrap ((Int.tmod (IntKind.u64.wrap (a0)) t104) + t106)) - t107)) % 4294967296)))) else (some ((Int.tmod (IntKind.u64.wrap (a0)) t104) % 4294967296)))))
theorem mimesisref01_Extend.mono : ∀ a0 a1 k, LeO (mimesisref01_Extend.f k a0 a1) (mimesisref01_Extend.f (k + 1) a0 a1) := by
  intro a0 a1 k
  unfold mimesisref01_Extend.f
  repeat' first
      | (with_reducible exact mimesisref01_Power.mono _ _)
      | (with_reducible exact LeO.refl _)
      | (with_reducible exact LeO.none _)
      | (with_reducible refine LeO.ite ?_ ?_)
      | (with_reducible refine LeO.bind ?_ (fun _ => ?_))
      | exact mimesisref01_Power.mono _ _
      | exact LeO.none _
      | refine LeO.ite ?_ ?_
      | refine LeO.bind ?_ (fun _ => ?_)
set_option maxHeartbeats 8000000 in
set_option maxRecDepth 100000 in
theorem mimesisref01_Extend.calls (k : Nat) (a0 : Int) (a1 : Int) (r : Int) (w : World) (h : mimesisref01_Extend.f k a0 a1 = some r) :
    Calls Tryd.prog 65 #[.int .u32 a0, .int .i64 a1] w fun e w' => e = .returned (.int .u32 r) ∧ Drawn0 w w' := by
  have H : ((mimesisref01_Power.f k a1).bind fun t104 => (if t104 = 0 then (none) else ((mimesisref01_Power.f k (wrap64 (a1 - 1))).bind fun t105 => (if (Int.tmod (IntKind.u64.wrap (a0)) t104) ≥ t105 then ((mimesisref01_Power.f k 32).bind fun t106 => ((mimesisref01_Power.f k a1).bind fun t107 => (some ((IntKind.u64.wrap ((IntKind.u64.wrap ((Int.tmod (IntKind.u64.wrap (a0)) t104) + t106)) - t107)) % 4294967296)))) else (some ((Int.tmod (IntKind.u64.wrap (a0)) t104) % 4294967296)))))) = some r := h
  clear h
  replace H := Option.bind_eq_some_iff.mp H
  obtain ⟨t104, A30, H⟩ := H
  replace H : (if t104 = 0 then (none) else ((mimesisref01_Power.f k (wrap64 (a1 - 1))).bind fun t105 => (if (Int.tmod (IntKind.u64.wrap (a0)) t104) ≥ t105 then ((mimesisref01_Power.f k 32).bind fun t106 => ((mimesisref01_Power.f k a1).bind fun t107 => (some ((IntKind.u64.wrap ((IntKind.u64.wrap ((Int.tmod (IntKind.u64.wrap (a0)) t104) + t106)) - t107)) % 4294967296)))) else (some ((Int.tmod (IntKind.u64.wrap (a0)) t104) % 4294967296))))) = some r := H
  have A3 := Aside0.mk A30
  clear A30
  by_cases c4 : t104 = 0
  · rw [if_pos c4] at H
    exact absurd H (by simp)
  · rw [if_neg c4] at H
    have c4b0 : (t104 == 0) = false := beq_eq_false_iff_ne.mpr c4
    have c4b1 : (t104 != 0) = true := bne_iff_ne.mpr c4
    replace H := Option.bind_eq_some_iff.mp H
    obtain ⟨t105, A50, H⟩ := H
    replace H : (if (Int.tmod (IntKind.u64.wrap (a0)) t104) ≥ t105 then ((mimesisref01_Power.f k 32).bind fun t106 => ((mimesisref01_Power.f k a1).bind fun t107 => (some ((IntKind.u64.wrap ((IntKind.u64.wrap ((Int.tmod (IntKind.u64.wrap (a0)) t104) + t106)) - t107)) % 4294967296)))) else (some ((Int.tmod (IntKind.u64.wrap (a0)) t104) % 4294967296))) = some r := H
    have A5 := Aside0.mk A50
    clear A50
    by_cases c6 : (Int.tmod (IntKind.u64.wrap (a0)) t104) ≥ t105
    · rw [if_pos c6] at H
      have c6b0 : decide (t105 ≤ (Int.tmod (IntKind.u64.wrap (a0)) t104)) = true := decide_eq_true c6
      clear c6
      replace H := Option.bind_eq_some_iff.mp H
      obtain ⟨t106, A70, H⟩ := H
      replace H : ((mimesisref01_Power.f k a1).bind fun t107 => (some ((IntKind.u64.wrap ((IntKind.u64.wrap ((Int.tmod (IntKind.u64.wrap (a0)) t104) + t106)) - t107)) % 4294967296))) = some r := H
      have A7 := Aside0.mk A70
      clear A70
      replace H := Option.bind_eq_some_iff.mp H
      obtain ⟨t107, A80, H⟩ := H
      replace H : (some ((IntKind.u64.wrap ((IntKind.u64.wrap ((Int.tmod (IntKind.u64.wrap (a0)) t104) + t106)) - t107)) % 4294967296)) = some r := H
      have A8 := Aside0.mk A80
      clear A80
      obtain rfl := Option.some.inj H
      go_enter Tryd.func65, Tryd.ntmps65
      go_wp2_with (first | ((with_reducible refine gate_callee (f := 67) rfl ?_); refine goesL_ (some 9) rfl rfl Tryd.func67 (by kernel_rfl) rfl #[.int .i64 a1] rfl (by (try simp only [List.map_toArray, List.map_cons, List.map_nil]); first | done | rfl | (simp only [List.length_drop, List.length_take]; rfl)) ?_; (with_reducible refine (mimesisref01_Power.calls k a1 t104 _ A3.out).mono ?_); rintro e w' ⟨rfl, ⟨nd, rfl⟩⟩; refine ⟨_, rfl, ?_⟩) | ((with_reducible refine gate_callee (f := 67) rfl ?_); refine goesL_ (some 14) rfl rfl Tryd.func67 (by kernel_rfl) rfl #[.int .i64 (wrap64 (a1 - 1))] rfl (by (try simp only [List.map_toArray, List.map_cons, List.map_nil]); first | done | rfl | (simp only [List.length_drop, List.length_take]; rfl)) ?_; (with_reducible refine (mimesisref01_Power.calls k (wrap64 (a1 - 1)) t105 _ A5.out).mono ?_); rintro e w' ⟨rfl, ⟨nd, rfl⟩⟩; refine ⟨_, rfl, ?_⟩) | ((with_reducible refine gate_callee (f := 67) rfl ?_); refine goesL_ (some 17) rfl rfl Tryd.func67 (by kernel_rfl) rfl #[.int .i64 32] rfl (by (try simp only [List.map_toArray, List.map_cons, List.map_nil]); first | done | rfl | (simp only [List.length_drop, List.length_take]; rfl)) ?_; (with_reducible refine (mimesisref01_Power.calls k 32 t106 _ A7.out).mono ?_); rintro e w' ⟨rfl, ⟨nd, rfl⟩⟩; refine ⟨_, rfl, ?_⟩) | ((with_reducible refine gate_callee (f := 67) rfl ?_); refine goesL_ (some 20) rfl rfl Tryd.func67 (by kernel_rfl) rfl #[.int .i64 a1] rfl (by (try simp only [List.map_toArray, List.map_cons, List.map_nil]); first | done | rfl | (simp only [List.length_drop, List.length_take]; rfl)) ?_; (with_reducible refine (mimesisref01_Power.calls k a1 t107 _ A8.out).mono ?_); rintro e w' ⟨rfl, ⟨nd, rfl⟩⟩; refine ⟨_, rfl, ?_⟩))
      go_ret
      exact ⟨by first | rfl | (simp; done) | (simp [*]; done), by repeat (first | exact Drawn0.refl _ | apply Drawn0.step)⟩
    · rw [if_neg c6] at H
      have c6b0 : decide (t105 ≤ (Int.tmod (IntKind.u64.wrap (a0)) t104)) = false := decide_eq_false c6
      clear c6
      obtain rfl := Option.some.inj H
      go_enter Tryd.func65, Tryd.ntmps65
      go_wp2_with (first | ((with_reducible refine gate_callee (f := 67) rfl ?_); refine goesL_ (some 9) rfl rfl Tryd.func67 (by kernel_rfl) rfl #[.int .i64 a1] rfl (by (try simp only [List.map_toArray, List.map_cons, List.map_nil]); first | done | rfl | (simp only [List.length_drop, List.length_take]; rfl)) ?_; (with_reducible refine (mimesisref01_Power.calls k a1 t104 _ A3.out).mono ?_); rintro e w' ⟨rfl, ⟨nd, rfl⟩⟩; refine ⟨_, rfl, ?_⟩) | ((with_reducible refine gate_callee (f := 67) rfl ?_); refine goesL_ (some 14) rfl rfl Tryd.func67 (by kernel_rfl) rfl #[.int .i64 (wrap64 (a1 - 1))] rfl (by (try simp only [List.map_toArray, List.map_cons, List.map_nil]); first | done | rfl | (simp only [List.length_drop, List.length_take]; rfl)) ?_; (with_reducible refine (mimesisref01_Power.calls k (wrap64 (a1 - 1)) t105 _ A5.out).mono ?_); rintro e w' ⟨rfl, ⟨nd, rfl⟩⟩; refine ⟨_, rfl, ?_⟩))
      go_ret
      exact ⟨by first | rfl | (simp; done) | (simp [*]; done), by repeat (first | exact Drawn0.refl _ | apply Drawn0.step)⟩

/-! mimesisref01_Bits -/
def mimesisref01_Bits.f (k : Nat) (a0 : Int) (a1 : Int) (a2 : Int) : Option (Int) := (mimesisref01_Power.f k a1).bind fun t108 => (if t108 = 0 then (none) else ((mimesisref01_Power.f k a2).bind fun t109 => (if t109 = 0 then (none) else (some ((Int.tmod (IntKind.u64.wrap (Int.tdiv (IntKind.u64.wrap (a0)) t108)) t109) % 4294967296)))))
theorem mimesisref01_Bits.mono : ∀ a0 a1 a2 k, LeO (mimesisref01_Bits.f k a0 a1 a2) (mimesisref01_Bits.f (k + 1) a0 a1 a2) := by
  intro a0 a1 a2 k
  unfold mimesisref01_Bits.f
  repeat' first
      | (with_reducible exact mimesisref01_Power.mono _ _)
      | (with_reducible exact LeO.refl _)
      | (with_reducible exact LeO.none _)
      | (with_reducible refine LeO.ite ?_ ?_)
      | (with_reducible refine LeO.bind ?_ (fun _ => ?_))
      | exact mimesisref01_Power.mono _ _
      | exact LeO.none _
      | refine LeO.ite ?_ ?_
      | refine LeO.bind ?_ (fun _ => ?_)
set_option maxHeartbeats 8000000 in
set_option maxRecDepth 100000 in
theorem mimesisref01_Bits.calls (k : Nat) (a0 : Int) (a1 : Int) (a2 : Int) (r : Int) (w : World) (h : mimesisref01_Bits.f k a0 a1 a2 = some r) :
    Calls Tryd.prog 66 #[.int .u32 a0, .int .i64 a1, .int .i64 a2] w fun e w' => e = .returned (.int .u32 r) ∧ Drawn0 w w' := by
  have H : ((mimesisref01_Power.f k a1).bind fun t108 => (if t108 = 0 then (none) else ((mimesisref01_Power.f k a2).bind fun t109 => (if t109 = 0 then (none) else (some ((Int.tmod (IntKind.u64.wrap (Int.tdiv (IntKind.u64.wrap (a0)) t108)) t109) % 4294967296)))))) = some r := h
  clear h
  replace H := Option.bind_eq_some_iff.mp H
  obtain ⟨t108, A40, H⟩ := H
  replace H : (if t108 = 0 then (none) else ((mimesisref01_Power.f k a2).bind fun t109 => (if t109 = 0 then (none) else (some ((Int.tmod (IntKind.u64.wrap (Int.tdiv (IntKind.u64.wrap (a0)) t108)) t109) % 4294967296))))) = some r := H
  have A4 := Aside0.mk A40
  clear A40
  by_cases c5 : t108 = 0
  · rw [if_pos c5] at H
    exact absurd H (by simp)
  · rw [if_neg c5] at H
    have c5b0 : (t108 == 0) = false := beq_eq_false_iff_ne.mpr c5
    have c5b1 : (t108 != 0) = true := bne_iff_ne.mpr c5
    replace H := Option.bind_eq_some_iff.mp H
    obtain ⟨t109, A60, H⟩ := H
    replace H : (if t109 = 0 then (none) else (some ((Int.tmod (IntKind.u64.wrap (Int.tdiv (IntKind.u64.wrap (a0)) t108)) t109) % 4294967296))) = some r := H
    have A6 := Aside0.mk A60
    clear A60
    by_cases c7 : t109 = 0
    · rw [if_pos c7] at H
      exact absurd H (by simp)
    · rw [if_neg c7] at H
      have c7b0 : (t109 == 0) = false := beq_eq_false_iff_ne.mpr c7
      have c7b1 : (t109 != 0) = true := bne_iff_ne.mpr c7
      obtain rfl := Option.some.inj H
      go_enter Tryd.func66, Tryd.ntmps66
      go_wp2_with (first | (go_at_call 67; (with_reducible refine (mimesisref01_Power.calls k a1 t108 _ A4.out).mono ?_); rintro e w' ⟨rfl, ⟨nd, rfl⟩⟩; (try first | exact ⟨rfl, _, World.drewN_drewN _ _ _⟩ | exact ⟨rfl, _, Eq.trans (World.drewN_drewN _ _ _) (congrArg (World.drewN _) (Nat.add_assoc _ _ _))⟩)) | (go_at_call 67; (with_reducible refine (mimesisref01_Power.calls k a2 t109 _ A6.out).mono ?_); rintro e w' ⟨rfl, ⟨nd, rfl⟩⟩; (try first | exact ⟨rfl, _, World.drewN_drewN _ _ _⟩ | exact ⟨rfl, _, Eq.trans (World.drewN_drewN _ _ _) (congrArg (World.drewN _) (Nat.add_assoc _ _ _))⟩)))
      repeat (go_quiet (first | (go_at_call 67; (with_reducible refine (mimesisref01_Power.calls k a1 t108 _ A4.out).mono ?_); rintro e w' ⟨rfl, ⟨nd, rfl⟩⟩; (try first | exact ⟨rfl, _, World.drewN_drewN _ _ _⟩ | exact ⟨rfl, _, Eq.trans (World.drewN_drewN _ _ _) (congrArg (World.drewN _) (Nat.add_assoc _ _ _))⟩)) | (go_at_call 67; (with_reducible refine (mimesisref01_Power.calls k a2 t109 _ A6.out).mono ?_); rintro e w' ⟨rfl, ⟨nd, rfl⟩⟩; (try first | exact ⟨rfl, _, World.drewN_drewN _ _ _⟩ | exact ⟨rfl, _, Eq.trans (World.drewN_drewN _ _ _) (congrArg (World.drewN _) (Nat.add_assoc _ _ _))⟩))); try go_wp2_with (first | (go_at_call 67; (with_reducible refine (mimesisref01_Power.calls k a1 t108 _ A4.out).mono ?_); rintro e w' ⟨rfl, ⟨nd, rfl⟩⟩; (try first | exact ⟨rfl, _, World.drewN_drewN _ _ _⟩ | exact ⟨rfl, _, Eq.trans (World.drewN_drewN _ _ _) (congrArg (World.drewN _) (Nat.add_assoc _ _ _))⟩)) | (go_at_call 67; (with_reducible refine (mimesisref01_Power.calls k a2 t109 _ A6.out).mono ?_); rintro e w' ⟨rfl, ⟨nd, rfl⟩⟩; (try first | exact ⟨rfl, _, World.drewN_drewN _ _ _⟩ | exact ⟨rfl, _, Eq.trans (World.drewN_drewN _ _ _) (congrArg (World.drewN _) (Nat.add_assoc _ _ _))⟩))))
      go_ret
      exact ⟨by first | rfl | (simp; done) | (simp [*]; done), by repeat (first | exact Drawn0.refl _ | apply Drawn0.step)⟩

/-! mimesisref03_bits -/
def mimesisref03_bits.f (k : Nat) (a0 : Int) (a1 : Int) (a2 : Int) : Option (Int) := (mimesisref01_Bits.f k a0 a2 (wrap64 ((wrap64 (a1 - a2)) + 1))).bind fun t110 => (some t110)
theorem mimesisref03_bits.mono : ∀ a0 a1 a2 k, LeO (mimesisref03_bits.f k a0 a1 a2) (mimesisref03_bits.f (k + 1) a0 a1 a2) := by
  intro a0 a1 a2 k
  unfold mimesisref03_bits.f
  repeat' first
      | (with_reducible exact mimesisref01_Bits.mono _ _ _ _)
      | (with_reducible exact LeO.refl _)
      | (with_reducible exact LeO.none _)
      | (with_reducible refine LeO.ite ?_ ?_)
      | (with_reducible refine LeO.bind ?_ (fun _ => ?_))
      | exact mimesisref01_Bits.mono _ _ _ _
      | exact LeO.none _
      | refine LeO.ite ?_ ?_
      | refine LeO.bind ?_ (fun _ => ?_)
set_option maxHeartbeats 8000000 in
set_option maxRecDepth 100000 in
theorem mimesisref03_bits.calls (k : Nat) (a0 : Int) (a1 : Int) (a2 : Int) (r : Int) (w : World) (h : mimesisref03_bits.f k a0 a1 a2 = some r) :
    Calls Tryd.prog 69 #[.int .u32 a0, .int .i64 a1, .int .i64 a2] w fun e w' => e = .returned (.int .u32 r) ∧ Drawn0 w w' := by
  have H : ((mimesisref01_Bits.f k a0 a2 (wrap64 ((wrap64 (a1 - a2)) + 1))).bind fun t110 => (some t110)) = some r := h
  clear h
  replace H := Option.bind_eq_some_iff.mp H
  obtain ⟨t110, A40, H⟩ := H
  replace H : (some t110) = some r := H
  have A4 := Aside0.mk A40
  clear A40
  obtain rfl := Option.some.inj H
  go_enter Tryd.func69, Tryd.ntmps69
  go_wp2_with (first | ((with_reducible refine gate_callee (f := 66) rfl ?_); refine goesL_ (some 13) rfl rfl Tryd.func66 (by kernel_rfl) rfl #[.int .u32 a0, .int .i64 a2, .int .i64 (wrap64 ((wrap64 (a1 - a2)) + 1))] rfl (by (try simp only [List.map_toArray, List.map_cons, List.map_nil]); first | done | rfl | (simp only [List.length_drop, List.length_take]; rfl)) ?_; (with_reducible refine (mimesisref01_Bits.calls k a0 a2 (wrap64 ((wrap64 (a1 - a2)) + 1)) t110 _ A4.out).mono ?_); rintro e w' ⟨rfl, ⟨nd, rfl⟩⟩; refine ⟨_, rfl, ?_⟩))
  go_ret
  exact ⟨by first | rfl | (simp; done) | (simp [*]; done), by repeat (first | exact Drawn0.refl _ | apply Drawn0.step)⟩

/-! mimesisref03_Imm -/
def mimesisref03_Imm.f (k : Nat) (a0 : Int) (a1 : Int) : Option (Int) := if a1 = 1 then ((mimesisref03_bits.f k a0 31 12).bind fun t111 => (some ((t111 * 4096) % 4294967296))) else (if a1 = 2 then ((mimesisref03_bits.f k a0 31 31).bind fun t112 => ((mimesisref03_bits.f k a0 19 12).bind fun t113 => ((mimesisref03_bits.f k a0 20 20).bind fun t114 => ((mimesisref03_bits.f k a0 30 21).bind fun t115 => ((mimesisref01_Extend.f k ((((((((((((t112 * 256) % 4294967296) + t113) % 4294967296) * 2) % 4294967296) + t114) % 4294967296) * 2048) % 4294967296) + ((t115 * 2) % 4294967296)) % 4294967296) 21).bind fun t116 => (some t116)))))) else (if a1 = 3 then ((mimesisref03_bits.f k a0 31 20).bind fun t117 => ((mimesisref01_Extend.f k t117 12).bind fun t118 => (some t118))) else (if a1 = 4 then ((mimesisref03_bits.f k a0 31 31).bind fun t119 => ((mimesisref03_bits.f k a0 7 7).bind fun t120 => ((mimesisref03_bits.f k a0 30 25).bind fun t121 => ((mimesisref03_bits.f k a0 11 8).bind fun t122 => ((mimesisref01_Extend.f k ((((((((((((t119 * 2) % 4294967296) + t120) % 4294967296) * 64) % 4294967296) + t121) % 4294967296) * 32) % 4294967296) + ((t122 * 2) % 4294967296)) % 4294967296) 13).bind fun t123 => (some t123)))))) else (if a1 = 5 then ((mimesisref03_bits.f k a0 31 25).bind fun t124 => ((mimesisref03_bits.f k a0 11 7).bind fun t125 => ((mimesisref01_Extend.f k ((((t124 * 32) % 4294967296) + t125) % 4294967296) 12).bind fun t126 => (some t126)))) else (if a1 = 7 then ((mimesisref03_bits.f k a0 24 20).bind fun t127 => (some t127)) else (if a1 = 9 then ((mimesisref03_bits.f k a0 19 15).bind fun t128 => (some t128)) else (some 0)))))))
theorem mimesisref03_Imm.mono : ∀ a0 a1 k, LeO (mimesisref03_Imm.f k a0 a1) (mimesisref03_Imm.f (k + 1) a0 a1) := by
  intro a0 a1 k
  unfold mimesisref03_Imm.f
  repeat' first
      | (with_reducible exact mimesisref01_Extend.mono _ _ _)
      | (with_reducible exact mimesisref03_bits.mono _ _ _ _)
      | (with_reducible exact LeO.refl _)
      | (with_reducible exact LeO.none _)
      | (with_reducible refine LeO.ite ?_ ?_)
      | (with_reducible refine LeO.bind ?_ (fun _ => ?_))
      | exact mimesisref01_Extend.mono _ _ _
      | exact mimesisref03_bits.mono _ _ _ _
      | exact LeO.none _
      | refine LeO.ite ?_ ?_
      | refine LeO.bind ?_ (fun _ => ?_)

end Go.Proofs.YtnooikjkjcflbabDoor.PDecodeWords
