/- Functions of the program as plain functions, and contracts of them: printed by the kit's print for this seat, cut into a text of our own. Conditions: the plain function answers. -/
import Derived.Test.YtlnbghhhifnbdaaDoorZQd
import Derived.Test.YtlnbghhhifnbdaaDoorZPIrTextsx10
namespace Go.Proofs.YtlnbghhhifnbdaaDoor.PIrTexts
open Go.RowKit Go.Proofs.YtlnbghhhifnbdaaDoorW.PrintWords Go.Proofs.YtlnbghhhifnbdaaDoorW.PrintLast Go.Proofs.YtlnbghhhifnbdaaDoorW.PrintMore
attribute [local go_sem] max2_int min2_int max_two min_two max_three min_three max_four min_four
set_option linter.unusedVariables false
set_option linter.unusedSimpArgs false

theorem szt_0 : (⟨#[101, 110, 100]⟩ : ByteArray).size = 3 := rfl
theorem szt_1 : (⟨#[104, 105, 116]⟩ : ByteArray).size = 3 := rfl
theorem szt_2 : (⟨#[108, 97, 115, 116, 32]⟩ : ByteArray).size = 5 := rfl
theorem szt_3 : (⟨#[10]⟩ : ByteArray).size = 1 := rfl
theorem szt_4 : (⟨#[115, 105, 100, 101]⟩ : ByteArray).size = 4 := rfl
theorem szt_5 : (⟨#[115, 108, 111, 119]⟩ : ByteArray).size = 4 := rfl
theorem szt_6 : (⟨#[32, 100, 111, 110, 101, 32]⟩ : ByteArray).size = 6 := rfl
theorem szt_7 : (⟨#[32, 116, 111, 32]⟩ : ByteArray).size = 4 := rfl
theorem szt_8 : (⟨#[32, 120]⟩ : ByteArray).size = 2 := rfl
theorem szt_9 : (⟨#[32, 97, 116, 32]⟩ : ByteArray).size = 4 := rfl
theorem szt_10 : (⟨#[32]⟩ : ByteArray).size = 1 := rfl
theorem szt_11 : (⟨#[33]⟩ : ByteArray).size = 1 := rfl
theorem szt_12 : (⟨#[61]⟩ : ByteArray).size = 1 := rfl
theorem szt_13 : (⟨#[]⟩ : ByteArray).size = 0 := rfl
/-! mimesisref23_Text -/
mutual
def mimesisref23_Text.l0 : Nat → ByteArray → Int → List Int → List (S38) → List (S59) → Int → Option (ByteArray)
  | 0, _, _, _, _, _, _ => none
  | k + 1, x3, x4, x236000, x236001, x236002, x236003 => if x4 < (x236001.length : Int) then ((mimesisref23_num.f k x4).bind fun t236 => (if x3.size + t236.size ≤ 9223372036854775807 then (if (x3 ++ t236).size + 1 ≤ 9223372036854775807 then (if 0 ≤ x4 then ((mimesisref23_line.f k ((rd_T38 x236001 x4).f0) ((rd_T38 x236001 x4).f1) ((rd_T38 x236001 x4).f2) ((rd_T38 x236001 x4).f3) ((rd_T38 x236001 x4).f4) ((rd_T38 x236001 x4).f5)).bind fun t238 => (if ((x3 ++ t236) ++ (⟨#[32]⟩ : ByteArray)).size + t238.size ≤ 9223372036854775807 then (if (((x3 ++ t236) ++ (⟨#[32]⟩ : ByteArray)) ++ t238).size + 1 ≤ 9223372036854775807 then (mimesisref23_Text.l0 k ((((x3 ++ t236) ++ (⟨#[32]⟩ : ByteArray)) ++ t238) ++ (⟨#[10]⟩ : ByteArray)) (wrap64 (x4 + 1)) x236000 x236001 x236002 x236003) else (none)) else (none))) else (none)) else (none)) else (none))) else (mimesisref23_Text.l1 k x3 0 x236000 x236001 x236002 x236003)
def mimesisref23_Text.l1 : Nat → ByteArray → Int → List Int → List (S38) → List (S59) → Int → Option (ByteArray)
  | 0, _, _, _, _, _, _ => none
  | k + 1, x3, x5, x236000, x236001, x236002, x236003 => if x5 < (x236002.length : Int) then (if 0 ≤ x5 then (if x3.size + 1 ≤ 9223372036854775807 then ((mimesisref23_num.f k x5).bind fun t242 => (if (x3 ++ (⟨#[33]⟩ : ByteArray)).size + t242.size ≤ 9223372036854775807 then (if ((x3 ++ (⟨#[33]⟩ : ByteArray)) ++ t242).size + 6 ≤ 9223372036854775807 then ((mimesisref23_num.f k ((rd_T59 x236002 x5).f0)).bind fun t243 => (if (((x3 ++ (⟨#[33]⟩ : ByteArray)) ++ t242) ++ (⟨#[32, 100, 111, 110, 101, 32]⟩ : ByteArray)).size + t243.size ≤ 9223372036854775807 then (if ((rd_T59 x236002 x5).f2) = (-1) then (if ((((x3 ++ (⟨#[33]⟩ : ByteArray)) ++ t242) ++ (⟨#[32, 100, 111, 110, 101, 32]⟩ : ByteArray)) ++ t243).size + 4 ≤ 9223372036854775807 then ((mimesisref01_Hex.f k ((rd_T59 x236002 x5).f1)).bind fun t244 => (if (((((x3 ++ (⟨#[33]⟩ : ByteArray)) ++ t242) ++ (⟨#[32, 100, 111, 110, 101, 32]⟩ : ByteArray)) ++ t243) ++ (⟨#[32, 97, 116, 32]⟩ : ByteArray)).size + t244.size ≤ 9223372036854775807 then (mimesisref23_Text.j2 k ((((((x3 ++ (⟨#[33]⟩ : ByteArray)) ++ t242) ++ (⟨#[32, 100, 111, 110, 101, 32]⟩ : ByteArray)) ++ t243) ++ (⟨#[32, 97, 116, 32]⟩ : ByteArray)) ++ t244) x5 x236000 x236001 x236002 x236003 ((rd_T59 x236002 x5).f0) ((rd_T59 x236002 x5).f1) ((rd_T59 x236002 x5).f2) ((rd_T59 x236002 x5).f3) ((rd_T59 x236002 x5).f4)) else (none))) else (none)) else (if ((((x3 ++ (⟨#[33]⟩ : ByteArray)) ++ t242) ++ (⟨#[32, 100, 111, 110, 101, 32]⟩ : ByteArray)) ++ t243).size + 4 ≤ 9223372036854775807 then ((mimesisref23_num.f k ((rd_T59 x236002 x5).f2)).bind fun t245 => (if (((((x3 ++ (⟨#[33]⟩ : ByteArray)) ++ t242) ++ (⟨#[32, 100, 111, 110, 101, 32]⟩ : ByteArray)) ++ t243) ++ (⟨#[32, 116, 111, 32]⟩ : ByteArray)).size + t245.size ≤ 9223372036854775807 then (mimesisref23_Text.j2 k ((((((x3 ++ (⟨#[33]⟩ : ByteArray)) ++ t242) ++ (⟨#[32, 100, 111, 110, 101, 32]⟩ : ByteArray)) ++ t243) ++ (⟨#[32, 116, 111, 32]⟩ : ByteArray)) ++ t245) x5 x236000 x236001 x236002 x236003 ((rd_T59 x236002 x5).f0) ((rd_T59 x236002 x5).f1) ((rd_T59 x236002 x5).f2) ((rd_T59 x236002 x5).f3) ((rd_T59 x236002 x5).f4)) else (none))) else (none))) else (none))) else (none)) else (none))) else (none)) else (none)) else (if x3.size + 5 ≤ 9223372036854775807 then ((mimesisref23_num.f k x236003).bind fun t239 => (if (x3 ++ (⟨#[108, 97, 115, 116, 32]⟩ : ByteArray)).size + t239.size ≤ 9223372036854775807 then (if ((x3 ++ (⟨#[108, 97, 115, 116, 32]⟩ : ByteArray)) ++ t239).size + 1 ≤ 9223372036854775807 then (some (((x3 ++ (⟨#[108, 97, 115, 116, 32]⟩ : ByteArray)) ++ t239) ++ (⟨#[10]⟩ : ByteArray))) else (none)) else (none))) else (none))
def mimesisref23_Text.j2 : Nat → ByteArray → Int → List Int → List (S38) → List (S59) → Int → Int → Int → Int → Int → List (S62) → Option (ByteArray)
  | 0, _, _, _, _, _, _, _, _, _, _, _ => none
  | k + 1, x3, x5, x236000, x236001, x236002, x236003, x242000, x242001, x242002, x242003, x242004 => if x3.size + 1 ≤ 9223372036854775807 then ((some (([(⟨#[]⟩ : ByteArray), (⟨#[115, 108, 111, 119]⟩ : ByteArray), (⟨#[104, 105, 116]⟩ : ByteArray), (⟨#[115, 105, 100, 101]⟩ : ByteArray), (⟨#[101, 110, 100]⟩ : ByteArray)] : List ByteArray) : List ByteArray)).bind fun y246 => (if 0 ≤ x242003 then (if x242003 < (y246.length : Int) then (if (x3 ++ (⟨#[32]⟩ : ByteArray)).size + (rdOf ByteArray.empty y246 x242003).size ≤ 9223372036854775807 then (mimesisref23_Text.l2 k ((x3 ++ (⟨#[32]⟩ : ByteArray)) ++ (rdOf ByteArray.empty y246 x242003)) x5 0 x236000 x236001 x236002 x236003 x242000 x242001 x242002 x242003 x242004) else (none)) else (none)) else (none))) else (none)
def mimesisref23_Text.l2 : Nat → ByteArray → Int → Int → List Int → List (S38) → List (S59) → Int → Int → Int → Int → Int → List (S62) → Option (ByteArray)
  | 0, _, _, _, _, _, _, _, _, _, _, _, _ => none
  | k + 1, x3, x5, x7, x236000, x236001, x236002, x236003, x242000, x242001, x242002, x242003, x242004 => if x7 < (x242004.length : Int) then (if x3.size + 2 ≤ 9223372036854775807 then (if 0 ≤ x7 then ((mimesisref23_num.f k ((rd_T62 x242004 x7).f0)).bind fun t251 => (if (x3 ++ (⟨#[32, 120]⟩ : ByteArray)).size + t251.size ≤ 9223372036854775807 then (if ((x3 ++ (⟨#[32, 120]⟩ : ByteArray)) ++ t251).size + 1 ≤ 9223372036854775807 then ((mimesisref23_num.f k ((rd_T62 x242004 x7).f1)).bind fun t253 => (if (((x3 ++ (⟨#[32, 120]⟩ : ByteArray)) ++ t251) ++ (⟨#[61]⟩ : ByteArray)).size + t253.size ≤ 9223372036854775807 then (mimesisref23_Text.l2 k ((((x3 ++ (⟨#[32, 120]⟩ : ByteArray)) ++ t251) ++ (⟨#[61]⟩ : ByteArray)) ++ t253) x5 (wrap64 (x7 + 1)) x236000 x236001 x236002 x236003 x242000 x242001 x242002 x242003 x242004) else (none))) else (none)) else (none))) else (none)) else (none)) else (if x3.size + 1 ≤ 9223372036854775807 then (mimesisref23_Text.l1 k (x3 ++ (⟨#[10]⟩ : ByteArray)) (wrap64 (x5 + 1)) x236000 x236001 x236002 x236003) else (none))
end
def mimesisref23_Text.f (k : Nat) (l0_0 : List Int) (l0_1 : List (S38)) (l0_2 : List (S59)) (a0_3 : Int) : Option (ByteArray) := mimesisref23_Text.l0 k (⟨#[]⟩ : ByteArray) 0 l0_0 l0_1 l0_2 a0_3
def mimesisref23_Text.T5 : Bool × List (List Nat × List Nat) := (true, [([], []), ([], []), ([1], [1]), ([0, 2], [0, 2]), ([3], [3]), ([], []), ([5], [5]), ([], []), ([6, 7], [6, 7]), ([8], [8]), ([9, 2], [9]), ([4, 10], [4, 10]), ([11], [11]), ([12, 10, 0, 1, 2, 3, 4, 5, 6, 7, 8, 9, 10, 11, 12], [0, 12])])
def mimesisref23_Text.B5 : List Nat := [0, 0, 2, 7, 15, 0, 32, 0, 224, 480, 998, 2047, 4095, 8191]
theorem mimesisref23_Text.tab5 : rtab .any (opsOf Tryd.f13 5) = mimesisref23_Text.T5 := by kernel_rfl
theorem mimesisref23_Text.bits5 : waitsOk mimesisref23_Text.T5.2 mimesisref23_Text.B5 = true := by kernel_rfl
def mimesisref23_Text.T10 : Bool × List (List Nat × List Nat) := (true, [([], []), ([0], [0]), ([], []), ([2], [2]), ([1, 3], [1, 3]), ([4], [4]), ([], []), ([6], [6]), ([7, 3], [7]), ([5, 8], [5, 8]), ([9, 8, 0, 1, 2, 3, 4, 5, 6, 7, 8, 9], [0, 9])])
def mimesisref23_Text.B10 : List Nat := [0, 1, 0, 4, 15, 31, 0, 64, 204, 511, 1023]
theorem mimesisref23_Text.tab10 : rtab .any (opsOf Tryd.f13 10) = mimesisref23_Text.T10 := by kernel_rfl
theorem mimesisref23_Text.bits10 : waitsOk mimesisref23_Text.T10.2 mimesisref23_Text.B10 = true := by kernel_rfl
def mimesisref23_Text.T18 : Bool × List (List Nat × List Nat) := (true, [([], []), ([0], [0]), ([], []), ([2], [2]), ([], []), ([3, 4], [3, 4]), ([5], [5]), ([6], [6]), ([7], [7]), ([1, 8], [1, 8]), ([9], [9]), ([], []), ([11], [11]), ([], []), ([12, 13], [12, 13]), ([14], [14]), ([15], [15]), ([16, 8], [16]), ([10, 17], [10, 17]), ([18, 17, 0, 1, 2, 3, 4, 5, 6, 7, 8, 9, 10, 11, 12, 13, 14, 15, 16, 17, 18], [0, 18])])
def mimesisref23_Text.B18 : List Nat := [0, 1, 0, 4, 0, 28, 60, 124, 252, 511, 1023, 0, 2048, 0, 14336, 30720, 63488, 129532, 262143, 524287]
theorem mimesisref23_Text.tab18 : rtab .any (opsOf Tryd.f13 18) = mimesisref23_Text.T18 := by kernel_rfl
theorem mimesisref23_Text.bits18 : waitsOk mimesisref23_Text.T18.2 mimesisref23_Text.B18 = true := by kernel_rfl
set_option maxHeartbeats 8000000 in
set_option maxRecDepth 100000 in
theorem mimesisref23_Text.calls (k : Nat) (A0_0 : Option Addr) (c0_0 : Nat) (l0_0 : List Int) (A0_1 : Option Addr) (c0_1 : Nat) (l0_1 : List (S38)) (A0_2 : Option Addr) (c0_2 : Nat) (l0_2 : List (S59)) (a0_3 : Int) (r : ByteArray) (w : World) (hr0_0 : Kd.C (Kd.int .u32) w A0_0 l0_0.length l0_0) (hc0_0 : l0_0.length ≤ c0_0) (hr0_1 : Kd.C k38 w A0_1 l0_1.length l0_1) (hc0_1 : l0_1.length ≤ c0_1) (hr0_2 : Kd.C k59 w A0_2 l0_2.length l0_2) (hc0_2 : l0_2.length ≤ c0_2) (h : mimesisref23_Text.f k l0_0 l0_1 l0_2 a0_3 = some r) :
    Calls Tryd.prog 13 #[.agg #[.slice A0_0 l0_0.length c0_0, .slice A0_1 l0_1.length c0_1, .slice A0_2 l0_2.length c0_2, .int .i64 a0_3]] w fun e w' => e = .returned (.string r) ∧ Below w.heap.size w w' := by
  have hu26 := Tryd.underlying26
  have hu38 := Tryd.underlying38
  have hu59 := Tryd.underlying59
  have HR0_0 := Aside0.mk hr0_0
  have HC0_0 := Aside0.mk hc0_0
  clear hr0_0 hc0_0
  have HR0_1 := Aside0.mk hr0_1
  have HC0_1 := Aside0.mk hc0_1
  clear hr0_1 hc0_1
  have HR0_2 := Aside0.mk hr0_2
  have HC0_2 := Aside0.mk hc0_2
  clear hr0_2 hc0_2
  have HB := Aside0.mk (Below.refl w.heap.size w)
  have H : (mimesisref23_Text.l0 k (⟨#[]⟩ : ByteArray) 0 l0_0 l0_1 l0_2 a0_3) = some r := h
  clear h
  have H' := Aside0.mk H
  clear H
  go_enter Tryd.func13, Tryd.ntmps13
  go_wp2_with (first | ((with_reducible refine gate_dst (N := 1) rfl ?_); refine box_event ?hg (N := 1) ?hd (cs := #[.slice A0_0 l0_0.length c0_0, .slice A0_1 l0_1.length c0_1, .slice A0_2 l0_2.length c0_2, .int .i64 a0_3]) (t := 26) ?hr ?_; (case hd => rfl); (case hg => rfl); (case hr => first | (go_simp; done) | (go_simp; rfl)); intro gb235 hg w2 hbox hb; have n0_ := Aside0.mk (below_step (by repeat (first | (with_reducible first | exact HB.out | apply below_alloc | apply pw_below_drewN | apply below_drew1) | exact HB.out)) hb); have n1_ := Aside0.mk (hbox); have n2_ := Aside0.mk ((by rw [hg]; exact (below_size (by repeat (first | (with_reducible first | exact HB.out | apply below_alloc | apply pw_below_drewN | apply below_drew1) | exact HB.out))) : w.heap.size ≤ gb235)); have n3_ := Aside0.mk ((by rw [hg]; exact (below_size (by repeat (first | (with_reducible first | exact HB.out | apply below_alloc | apply pw_below_drewN | apply below_drew1) | exact HB.out))) : w.heap.size ≤ gb235)); clear HB; have HB := n0_; have BK235 := n1_; have GW235 := n2_; have GE235 := n3_; clear n0_ n1_ n2_ n3_; clear hb hbox hg))
  go_loopg [3, 4] k (fun kq v3 v4 w' => ∃ (x3_1 : ByteArray) (x4_1 : Int), v3 = .string x3_1 ∧ v4 = .int .i64 x4_1 ∧ Aside0 (mimesisref23_Text.l0 kq x3_1 x4_1 l0_0 l0_1 l0_2 a0_3 = some r) ∧ Aside0 (kq ≤ k) ∧ Aside0 (w'.heap[gb235]? = some (.cells #[(.slice A0_0 l0_0.length c0_0), (.slice A0_1 l0_1.length c0_1), (.slice A0_2 l0_2.length c0_2), .int .i64 a0_3] 26 (0, 0))) ∧ Aside0 (Below w.heap.size w w'))
  case atStart => exact ⟨((⟨#[]⟩ : ByteArray)), (0), (by first | rfl | (simp; done) | (simp [*]; done)), (by first | rfl | (simp; done) | (simp [*]; done)), H', ⟨Nat.le_refl _⟩, ⟨by (with_reducible repeat (first | refine blk_drewN ?_ _ | refine blk_drew ?_ | refine blk_alloc ?_ _)); exact BK235.out⟩, ⟨by repeat (first | (with_reducible first | exact HB.out | apply below_alloc | apply pw_below_drewN | apply below_drew1 | refine below_set ?_ GE235.out) | exact HB.out)⟩⟩
  case round =>
    clear H'
    try clear c1
    try clear p2
    obtain ⟨x3_1, x4_1, rfl, rfl, HA, HK1, BK235, HB⟩ := hrel
    cases gk with
    | zero => exact absurd HA.out (by simp [mimesisref23_Text.l0])
    | succ k1 =>
      have H := HA.out
      clear HA
      simp only [mimesisref23_Text.l0] at H
      by_cases c3 : x4_1 < (l0_1.length : Int)
      · rw [if_pos c3] at H
        have c3b0 : decide (x4_1 < (l0_1.length : Int)) = true := decide_eq_true c3
        clear c3
        replace H := Option.bind_eq_some_iff.mp H
        obtain ⟨t236, A40, H⟩ := H
        replace H : (if x3_1.size + t236.size ≤ 9223372036854775807 then (if (x3_1 ++ t236).size + 1 ≤ 9223372036854775807 then (if 0 ≤ x4_1 then ((mimesisref23_line.f k1 ((rd_T38 l0_1 x4_1).f0) ((rd_T38 l0_1 x4_1).f1) ((rd_T38 l0_1 x4_1).f2) ((rd_T38 l0_1 x4_1).f3) ((rd_T38 l0_1 x4_1).f4) ((rd_T38 l0_1 x4_1).f5)).bind fun t238 => (if ((x3_1 ++ t236) ++ (⟨#[32]⟩ : ByteArray)).size + t238.size ≤ 9223372036854775807 then (if (((x3_1 ++ t236) ++ (⟨#[32]⟩ : ByteArray)) ++ t238).size + 1 ≤ 9223372036854775807 then (mimesisref23_Text.l0 k1 ((((x3_1 ++ t236) ++ (⟨#[32]⟩ : ByteArray)) ++ t238) ++ (⟨#[10]⟩ : ByteArray)) (wrap64 (x4_1 + 1)) l0_0 l0_1 l0_2 a0_3) else (none)) else (none))) else (none)) else (none)) else (none)) = some r := H
        have A4 := Aside0.mk A40
        clear A40
        by_cases c5 : x3_1.size + t236.size ≤ 9223372036854775807
        · rw [if_pos c5] at H
          have c5b0 := eq_true c5
          have c5b1 : decide (x3_1.size + t236.size ≤ 9223372036854775807) = true := decide_eq_true c5
          try have c5b2 : (9223372036854775807 < x3_1.size + t236.size) = False := eq_false (Nat.not_lt.2 c5)
          try have c5b3 := c5b2
          try simp only [ByteArray.size_append, szt_0, szt_1, szt_2, szt_3, szt_4, szt_5, szt_6, szt_7, szt_8, szt_9, szt_10, szt_11, szt_12, szt_13] at c5b3
          by_cases c6 : (x3_1 ++ t236).size + 1 ≤ 9223372036854775807
          · rw [if_pos c6] at H
            have c6b0 := eq_true c6
            have c6b1 : decide ((x3_1 ++ t236).size + 1 ≤ 9223372036854775807) = true := decide_eq_true c6
            try have c6b2 : (9223372036854775807 < (x3_1 ++ t236).size + 1) = False := eq_false (Nat.not_lt.2 c6)
            try have c6b3 := c6b2
            try simp only [ByteArray.size_append, szt_0, szt_1, szt_2, szt_3, szt_4, szt_5, szt_6, szt_7, szt_8, szt_9, szt_10, szt_11, szt_12, szt_13] at c6b3
            by_cases c7 : 0 ≤ x4_1
            · rw [if_pos c7] at H
              have c7b0 : decide (0 ≤ x4_1) = true := decide_eq_true c7
              clear c7
              replace H := Option.bind_eq_some_iff.mp H
              obtain ⟨t238, A80, H⟩ := H
              replace H : (if ((x3_1 ++ t236) ++ (⟨#[32]⟩ : ByteArray)).size + t238.size ≤ 9223372036854775807 then (if (((x3_1 ++ t236) ++ (⟨#[32]⟩ : ByteArray)) ++ t238).size + 1 ≤ 9223372036854775807 then (mimesisref23_Text.l0 k1 ((((x3_1 ++ t236) ++ (⟨#[32]⟩ : ByteArray)) ++ t238) ++ (⟨#[10]⟩ : ByteArray)) (wrap64 (x4_1 + 1)) l0_0 l0_1 l0_2 a0_3) else (none)) else (none)) = some r := H
              have A8 := Aside0.mk A80
              clear A80
              by_cases c9 : ((x3_1 ++ t236) ++ (⟨#[32]⟩ : ByteArray)).size + t238.size ≤ 9223372036854775807
              · rw [if_pos c9] at H
                have c9b0 := eq_true c9
                have c9b1 : decide (((x3_1 ++ t236) ++ (⟨#[32]⟩ : ByteArray)).size + t238.size ≤ 9223372036854775807) = true := decide_eq_true c9
                try have c9b2 : (9223372036854775807 < ((x3_1 ++ t236) ++ (⟨#[32]⟩ : ByteArray)).size + t238.size) = False := eq_false (Nat.not_lt.2 c9)
                try have c9b3 := c9b2
                try simp only [ByteArray.size_append, szt_0, szt_1, szt_2, szt_3, szt_4, szt_5, szt_6, szt_7, szt_8, szt_9, szt_10, szt_11, szt_12, szt_13] at c9b3
                by_cases c10 : (((x3_1 ++ t236) ++ (⟨#[32]⟩ : ByteArray)) ++ t238).size + 1 ≤ 9223372036854775807
                · rw [if_pos c10] at H
                  have c10b0 := eq_true c10
                  have c10b1 : decide ((((x3_1 ++ t236) ++ (⟨#[32]⟩ : ByteArray)) ++ t238).size + 1 ≤ 9223372036854775807) = true := decide_eq_true c10
                  try have c10b2 : (9223372036854775807 < (((x3_1 ++ t236) ++ (⟨#[32]⟩ : ByteArray)) ++ t238).size + 1) = False := eq_false (Nat.not_lt.2 c10)
                  try have c10b3 := c10b2
                  try simp only [ByteArray.size_append, szt_0, szt_1, szt_2, szt_3, szt_4, szt_5, szt_6, szt_7, szt_8, szt_9, szt_10, szt_11, szt_12, szt_13] at c10b3
                  have H' := Aside0.mk H
                  clear H
                  have hcz11_0 : wr.cell? ⟨gb235, 0, none⟩ = some (.slice A0_0 l0_0.length c0_0) := (blk_cell BK235.out 0).trans rfl
                  have hcz11_1 : wr.cell? ⟨gb235, 1, none⟩ = some (.slice A0_1 l0_1.length c0_1) := (blk_cell BK235.out 1).trans rfl
                  have hcz11_2 : wr.cell? ⟨gb235, 2, none⟩ = some (.slice A0_2 l0_2.length c0_2) := (blk_cell BK235.out 2).trans rfl
                  have hcz11_3 : wr.cell? ⟨gb235, 3, none⟩ = some (.int .i64 a0_3) := (blk_cell BK235.out 3).trans rfl
                  have hfz11_0 := blk_frozen BK235.out 0
                  have hfz11_1 := blk_frozen BK235.out 1
                  have hfz11_2 := blk_frozen BK235.out 2
                  have hfz11_3 := blk_frozen BK235.out 3
                  try go_wp2
                  have n0_ := Aside0.mk (blk_drew BK235.out)
                  have n1_ := Aside0.mk (below_drew1 HB.out)
                  clear BK235
                  clear HB
                  have BK235 := n0_
                  have HB := n1_
                  clear n0_ n1_
                  have p237 : 0 ≤ (x4_1 : Int) := of_decide_eq_true (by first | (with_reducible assumption) | assumption)
                  have q237 : x4_1 < (l0_1.length : Int) := of_decide_eq_true (by first | (with_reducible assumption) | assumption)
                  obtain ⟨ad237, e237, hx237_0, hx237_1, hx237_2, hx237_3, hx237_4, hx237_5⟩ := at_T38 HR0_1.out x4_1 p237 q237
                  have hw237_5 := hx237_5
                  have hw237_4 := hx237_4
                  have hw237_3 := hx237_3
                  have hw237_2 := hx237_2
                  have hw237_1 := hx237_1
                  have hw237_0 := hx237_0
                  cases e237
                  replace hx237_0 := (HB.out.cell (World.block_lt_of_cell? w _ hx237_0)).trans hx237_0
                  replace hx237_1 := (HB.out.cell (World.block_lt_of_cell? w _ hx237_1)).trans hx237_1
                  replace hx237_2 := (HB.out.cell (World.block_lt_of_cell? w _ hx237_2)).trans hx237_2
                  replace hx237_3 := (HB.out.cell (World.block_lt_of_cell? w _ hx237_3)).trans hx237_3
                  replace hx237_4 := (HB.out.cell (World.block_lt_of_cell? w _ hx237_4)).trans hx237_4
                  replace hx237_5 := (HB.out.cell (World.block_lt_of_cell? w _ hx237_5)).trans hx237_5
                  replace p237 := eq_true p237
                  replace q237 := eq_true q237
                  refine start_ (n := 14) (S := fun w' => w'.cell? ⟨gb235, 0, none⟩ = some (.slice A0_0 l0_0.length c0_0) ∧ w'.cell? ⟨gb235, 1, none⟩ = some (.slice (some ad237) l0_1.length c0_1) ∧ w'.cell? ⟨gb235, 2, none⟩ = some (.slice A0_2 l0_2.length c0_2) ∧ w'.cell? ⟨gb235, 3, none⟩ = some (.int .i64 a0_3) ∧ w'.cell? (ad237.add ((x4_1).toNat * 6)) = some (.int .i64 ((rd_T38 l0_1 x4_1).f0)) ∧ w'.cell? ⟨(ad237.add ((x4_1).toNat * 6)).block, (ad237.add ((x4_1).toNat * 6)).off + 1, none⟩ = some (.int .i64 ((rd_T38 l0_1 x4_1).f1)) ∧ w'.cell? ⟨(ad237.add ((x4_1).toNat * 6)).block, (ad237.add ((x4_1).toNat * 6)).off + 2, none⟩ = some (.int .i64 ((rd_T38 l0_1 x4_1).f2)) ∧ w'.cell? ⟨(ad237.add ((x4_1).toNat * 6)).block, (ad237.add ((x4_1).toNat * 6)).off + 3, none⟩ = some (.int .u32 ((rd_T38 l0_1 x4_1).f3)) ∧ w'.cell? ⟨(ad237.add ((x4_1).toNat * 6)).block, (ad237.add ((x4_1).toNat * 6)).off + 4, none⟩ = some (.int .i64 ((rd_T38 l0_1 x4_1).f4)) ∧ w'.cell? ⟨(ad237.add ((x4_1).toNat * 6)).block, (ad237.add ((x4_1).toNat * 6)).off + 5, none⟩ = some (.int .i64 ((rd_T38 l0_1 x4_1).f5))) (ds := []) #[false, false, false, false, false, false, false, false, false, false, false, false, false, false] (by kernel_rfl) rfl rfl ⟨(blk_cell BK235.out 0).trans rfl, (blk_cell BK235.out 1).trans rfl, (blk_cell BK235.out 2).trans rfl, (blk_cell BK235.out 3).trans rfl, ((HB.out.cell (World.block_lt_of_cell? w _ hw237_0)).trans hw237_0), ((HB.out.cell (World.block_lt_of_cell? w _ hw237_1)).trans hw237_1), ((HB.out.cell (World.block_lt_of_cell? w _ hw237_2)).trans hw237_2), ((HB.out.cell (World.block_lt_of_cell? w _ hw237_3)).trans hw237_3), ((HB.out.cell (World.block_lt_of_cell? w _ hw237_4)).trans hw237_4), ((HB.out.cell (World.block_lt_of_cell? w _ hw237_5)).trans hw237_5)⟩ (fun hHeld => ?_); refine with_tabW mimesisref23_Text.tab5 mimesisref23_Text.bits5 (fun HT_ HW_ => ?_)
                  generalize wr.drew = w12 at BK235 HB hx237_0 hx237_1 hx237_2 hx237_3 hx237_4 hx237_5 hHeld ⊢
                  refine pure_ (i := 0) (N := some 15) (v := ?_) (a' := ?_) #[true, false, false, false, false, false, false, false, false, false, false, false, false, false] rfl rfl (any_of HT_.out (by kernel_rfl)) (fun _ _ _ h => h) (Or.inl ⟨by rfl, ?_⟩) ?_ ?_
                  rotate_left
                  · intro w'
                    go_simp
                    with_reducible rfl
                  rotate_left
                  · simp only [Act.put, List.setIfInBounds_toArray, List.set_cons_zero, List.set_cons_succ, i64_w, i32_w]
                    rfl
                  refine pure_ (i := 1) (N := some 16) (v := ?_) (a' := ?_) #[true, true, false, false, false, false, false, false, false, false, false, false, false, false] rfl rfl (any_of HT_.out (by kernel_rfl)) (fun _ _ _ h => h) (Or.inl ⟨by rfl, ?_⟩) ?_ ?_
                  rotate_left
                  · intro w'
                    go_simp
                    with_reducible rfl
                  rotate_left
                  · simp only [Act.put, List.setIfInBounds_toArray, List.set_cons_zero, List.set_cons_succ, i64_w, i32_w]
                    rfl
                  refine pure_ (i := 5) (N := some 20) (v := ?_) (a' := ?_) #[true, true, false, false, false, true, false, false, false, false, false, false, false, false] rfl rfl (any_of HT_.out (by kernel_rfl)) (fun _ _ _ h => h) (Or.inl ⟨by rfl, ?_⟩) ?_ ?_
                  rotate_left
                  · intro w'
                    go_simp
                    with_reducible rfl
                  rotate_left
                  · simp only [Act.put, List.setIfInBounds_toArray, List.set_cons_zero, List.set_cons_succ, i64_w, i32_w]
                    rfl
                  refine pure_ (i := 7) (N := some 22) (v := ?_) (a' := ?_) #[true, true, false, false, false, true, false, true, false, false, false, false, false, false] rfl rfl (any_of HT_.out (by kernel_rfl)) (fun _ _ _ h => h) (Or.inl ⟨by rfl, ?_⟩) ?_ ?_
                  rotate_left
                  · intro w'
                    go_simp
                    with_reducible rfl
                  rotate_left
                  · simp only [Act.put, List.setIfInBounds_toArray, List.set_cons_zero, List.set_cons_succ, i64_w, i32_w]
                    rfl
                  refine take_ (i := 6) (N := some 21) (v := ?_) (a' := ?_) #[true, true, false, false, false, true, true, true, false, false, false, false, false, false] rfl rfl (take_ofW HT_.out HW_.out (by kernel_rfl)) (fun _ _ _ h => h) (Or.inl ⟨by rfl, ?_⟩) hHeld ?_ ?_
                  rotate_left
                  · rintro w' ⟨s0, s1, s2, s3, s4, s5, s6, s7, s8, s9⟩
                    go_simp
                    with_reducible rfl
                  rotate_left
                  · simp only [Act.put, List.setIfInBounds_toArray, List.set_cons_zero, List.set_cons_succ, i64_w, i32_w]
                    rfl
                  refine pure_ (i := 8) (N := some 23) (v := ?_) (a' := ?_) #[true, true, false, false, false, true, true, true, true, false, false, false, false, false] rfl rfl (any_of HT_.out (by kernel_rfl)) (fun _ _ _ h => h) (Or.inl ⟨by rfl, ?_⟩) ?_ ?_
                  rotate_left
                  · intro w'
                    go_simp
                    with_reducible rfl
                  rotate_left
                  · simp only [Act.put, List.setIfInBounds_toArray, List.set_cons_zero, List.set_cons_succ, i64_w, i32_w]
                    rfl
                  refine take_ (i := 9) (N := some 24) (v := ?_) (a' := ?_) #[true, true, false, false, false, true, true, true, true, true, false, false, false, false] rfl rfl (take_ofW HT_.out HW_.out (by kernel_rfl)) (fun _ _ _ h => h) (Or.inl ⟨by rfl, ?_⟩) hHeld ?_ ?_
                  rotate_left
                  · rintro w' ⟨s0, s1, s2, s3, s4, s5, s6, s7, s8, s9⟩
                    go_simp
                    with_reducible rfl
                  rotate_left
                  · simp only [Act.put, List.setIfInBounds_toArray, List.set_cons_zero, List.set_cons_succ, i64_w, i32_w]
                    rfl
                  refine one_ (i := 2) (N := some 17) #[true, true, true, false, false, true, true, true, true, true, false, false, false, false] rfl rfl (one_of HT_.out (by kernel_rfl)) (by decide) (fun K hK => ?_)
                  refine goes_ Tryd.func30 (by kernel_rfl) rfl #[.int .i64 x4_1] (by rfl) rfl rfl (by (try simp only [List.map_toArray, List.map_cons, List.map_nil]); first | done | rfl | (simp only [List.length_drop, List.length_take]; rfl)) ?_
                  with_reducible refine (mimesisref23_num.calls k1 x4_1 t236 _ A4.out).mono ?_
                  rintro e w' ⟨rfl, ⟨nd, rfl⟩⟩
                  refine ⟨_, rfl, ?_⟩
                  refine hK.out _ _ ⟨(blk_cell BK235.out 0).trans rfl, (blk_cell BK235.out 1).trans rfl, (blk_cell BK235.out 2).trans rfl, (blk_cell BK235.out 3).trans rfl, ((HB.out.cell (World.block_lt_of_cell? w _ hw237_0)).trans hw237_0), ((HB.out.cell (World.block_lt_of_cell? w _ hw237_1)).trans hw237_1), ((HB.out.cell (World.block_lt_of_cell? w _ hw237_2)).trans hw237_2), ((HB.out.cell (World.block_lt_of_cell? w _ hw237_3)).trans hw237_3), ((HB.out.cell (World.block_lt_of_cell? w _ hw237_4)).trans hw237_4), ((HB.out.cell (World.block_lt_of_cell? w _ hw237_5)).trans hw237_5)⟩ (fun hHeld => ?_)
                  clear hK K
                  refine norm_ (a' := ?_) ?_ ?_
                  rotate_left
                  · show Act.put _ (some 17) _ = _
                    simp only [Act.put, List.setIfInBounds_toArray, List.set_cons_zero, List.set_cons_succ, i64_w, i32_w]
                    rfl
                  refine pure_ (i := 3) (N := some 18) (v := ?_) (a' := ?_) #[true, true, true, true, false, true, true, true, true, true, false, false, false, false] rfl rfl (any_of HT_.out (by kernel_rfl)) (fun _ _ _ h => h) (Or.inl ⟨by rfl, ?_⟩) ?_ ?_
                  rotate_left
                  · intro w'
                    go_simp
                    with_reducible rfl
                  rotate_left
                  · simp only [Act.put, List.setIfInBounds_toArray, List.set_cons_zero, List.set_cons_succ, i64_w, i32_w]
                    rfl
                  refine pure_ (i := 4) (N := some 19) (v := ?_) (a' := ?_) #[true, true, true, true, true, true, true, true, true, true, false, false, false, false] rfl rfl (any_of HT_.out (by kernel_rfl)) (fun _ _ _ h => h) (Or.inl ⟨by rfl, ?_⟩) ?_ ?_
                  rotate_left
                  · intro w'
                    go_simp
                    with_reducible rfl
                  rotate_left
                  · simp only [Act.put, List.setIfInBounds_toArray, List.set_cons_zero, List.set_cons_succ, i64_w, i32_w]
                    rfl
                  refine one_ (i := 10) (N := some 25) #[true, true, true, true, true, true, true, true, true, true, true, false, false, false] rfl rfl (one_of HT_.out (by kernel_rfl)) (by decide) (fun K hK => ?_)
                  refine goes_ Tryd.func31 (by kernel_rfl) rfl #[.agg #[.int .i64 ((rd_T38 l0_1 x4_1).f0), .int .i64 ((rd_T38 l0_1 x4_1).f1), .int .i64 ((rd_T38 l0_1 x4_1).f2), .int .u32 ((rd_T38 l0_1 x4_1).f3), .int .i64 ((rd_T38 l0_1 x4_1).f4), .int .i64 ((rd_T38 l0_1 x4_1).f5)]] (by rfl) rfl rfl (by (try simp only [List.map_toArray, List.map_cons, List.map_nil]); first | done | rfl | (simp only [List.length_drop, List.length_take]; rfl)) ?_
                  with_reducible refine (mimesisref23_line.calls k1 ((rd_T38 l0_1 x4_1).f0) ((rd_T38 l0_1 x4_1).f1) ((rd_T38 l0_1 x4_1).f2) ((rd_T38 l0_1 x4_1).f3) ((rd_T38 l0_1 x4_1).f4) ((rd_T38 l0_1 x4_1).f5) t238 _ A8.out).mono ?_
                  rintro e w13 ⟨rfl, hb⟩
                  refine ⟨_, rfl, ?_⟩
                  have n0_ := Aside0.mk (blk_below (g := gb235) (o := .cells #[.slice A0_0 l0_0.length c0_0, .slice (some ad237) l0_1.length c0_1, .slice A0_2 l0_2.length c0_2, .int .i64 a0_3] 26 (0, 0)) (by (with_reducible repeat (first | refine blk_drewN ?_ _ | refine blk_drew ?_ | refine blk_alloc ?_ _)); exact BK235.out) hb)
                  have n1_ := Aside0.mk (below_step (by repeat (first | (with_reducible first | exact HB.out | apply below_alloc | apply pw_below_drewN | apply below_drew1 | refine below_set ?_ GE235.out) | exact HB.out)) hb)
                  clear BK235
                  clear HB
                  have BK235 := n0_
                  have HB := n1_
                  clear n0_ n1_
                  (try clear hb)
                  (try clear hb2)
                  (try clear hk)
                  (try clear hi)
                  refine hK.out _ _ ⟨(blk_cell BK235.out 0).trans rfl, (blk_cell BK235.out 1).trans rfl, (blk_cell BK235.out 2).trans rfl, (blk_cell BK235.out 3).trans rfl, ((HB.out.cell (World.block_lt_of_cell? w _ hw237_0)).trans hw237_0), ((HB.out.cell (World.block_lt_of_cell? w _ hw237_1)).trans hw237_1), ((HB.out.cell (World.block_lt_of_cell? w _ hw237_2)).trans hw237_2), ((HB.out.cell (World.block_lt_of_cell? w _ hw237_3)).trans hw237_3), ((HB.out.cell (World.block_lt_of_cell? w _ hw237_4)).trans hw237_4), ((HB.out.cell (World.block_lt_of_cell? w _ hw237_5)).trans hw237_5)⟩ (fun hHeld => ?_)
                  clear hK K
                  refine norm_ (a' := ?_) ?_ ?_
                  rotate_left
                  · show Act.put _ (some 25) _ = _
                    simp only [Act.put, List.setIfInBounds_toArray, List.set_cons_zero, List.set_cons_succ, i64_w, i32_w]
                    rfl
                  refine pure_ (i := 11) (N := some 26) (v := ?_) (a' := ?_) #[true, true, true, true, true, true, true, true, true, true, true, true, false, false] rfl rfl (any_of HT_.out (by kernel_rfl)) (fun _ _ _ h => h) (Or.inl ⟨by rfl, ?_⟩) ?_ ?_
                  rotate_left
                  · intro w'
                    go_simp
                    with_reducible rfl
                  rotate_left
                  · simp only [Act.put, List.setIfInBounds_toArray, List.set_cons_zero, List.set_cons_succ, i64_w, i32_w]
                    rfl
                  refine pure_ (i := 12) (N := some 27) (v := ?_) (a' := ?_) #[true, true, true, true, true, true, true, true, true, true, true, true, true, false] rfl rfl (any_of HT_.out (by kernel_rfl)) (fun _ _ _ h => h) (Or.inl ⟨by rfl, ?_⟩) ?_ ?_
                  rotate_left
                  · intro w'
                    go_simp
                    with_reducible rfl
                  rotate_left
                  · simp only [Act.put, List.setIfInBounds_toArray, List.set_cons_zero, List.set_cons_succ, i64_w, i32_w]
                    rfl
                  refine pure_ (i := 13) (N := some 3) (v := ?_) (a' := ?_) #[true, true, true, true, true, true, true, true, true, true, true, true, true, true] rfl rfl (any_of HT_.out (by kernel_rfl)) (fun _ _ _ h => h) (Or.inl ⟨by rfl, ?_⟩) ?_ ?_
                  rotate_left
                  · intro w'
                    go_simp
                    with_reducible rfl
                  rotate_left
                  · simp only [Act.put, List.setIfInBounds_toArray, List.set_cons_zero, List.set_cons_succ, i64_w, i32_w]
                    rfl
                  refine done_ (done_of HT_.out (by kernel_rfl)) ?_
                  try go_wp2
                  go_roundg k1
                  case measure => have := HK1.out; omega
                  case rel => exact ⟨((((x3_1 ++ t236) ++ (⟨#[32]⟩ : ByteArray)) ++ t238) ++ (⟨#[10]⟩ : ByteArray)), (wrap64 (x4_1 + 1)), (by first | rfl | (simp; done) | (simp [*]; done)), (by first | rfl | (simp; done) | (simp [*]; done)), H', ⟨by have := HK1.out; omega⟩, ⟨by (with_reducible repeat (first | refine blk_drewN ?_ _ | refine blk_drew ?_ | refine blk_alloc ?_ _)); exact BK235.out⟩, ⟨by repeat (first | (with_reducible first | exact HB.out | apply below_alloc | apply pw_below_drewN | apply below_drew1 | refine below_set ?_ GE235.out) | exact HB.out)⟩⟩
                · rw [if_neg c10] at H
                  exact absurd H (by simp)
              · rw [if_neg c9] at H
                exact absurd H (by simp)
            · rw [if_neg c7] at H
              exact absurd H (by simp)
          · rw [if_neg c6] at H
            exact absurd H (by simp)
        · rw [if_neg c5] at H
          exact absurd H (by simp)
      · rw [if_neg c3] at H
        have c3b0 : decide (x4_1 < (l0_1.length : Int)) = false := decide_eq_false c3
        clear c3
        have H' := Aside0.mk H
        clear H
        have hcz14_0 : wr.cell? ⟨gb235, 0, none⟩ = some (.slice A0_0 l0_0.length c0_0) := (blk_cell BK235.out 0).trans rfl
        have hcz14_1 : wr.cell? ⟨gb235, 1, none⟩ = some (.slice A0_1 l0_1.length c0_1) := (blk_cell BK235.out 1).trans rfl
        have hcz14_2 : wr.cell? ⟨gb235, 2, none⟩ = some (.slice A0_2 l0_2.length c0_2) := (blk_cell BK235.out 2).trans rfl
        have hcz14_3 : wr.cell? ⟨gb235, 3, none⟩ = some (.int .i64 a0_3) := (blk_cell BK235.out 3).trans rfl
        have hfz14_0 := blk_frozen BK235.out 0
        have hfz14_1 := blk_frozen BK235.out 1
        have hfz14_2 := blk_frozen BK235.out 2
        have hfz14_3 := blk_frozen BK235.out 3
        go_wp2
        go_loopg [3, 5] k1 (fun kq v3 v5 w' => ∃ (x3_2 : ByteArray) (x5_2 : Int), v3 = .string x3_2 ∧ v5 = .int .i64 x5_2 ∧ Aside0 (mimesisref23_Text.l1 kq x3_2 x5_2 l0_0 l0_1 l0_2 a0_3 = some r) ∧ Aside0 (kq ≤ k1) ∧ Aside0 (w'.heap[gb235]? = some (.cells #[(.slice A0_0 l0_0.length c0_0), (.slice A0_1 l0_1.length c0_1), (.slice A0_2 l0_2.length c0_2), .int .i64 a0_3] 26 (0, 0))) ∧ Aside0 (Below w.heap.size w w'))
        case atStart => exact ⟨(x3_1), (0), (by first | rfl | (simp; done) | (simp [*]; done)), (by first | rfl | (simp; done) | (simp [*]; done)), H', ⟨Nat.le_refl _⟩, ⟨by (with_reducible repeat (first | refine blk_drewN ?_ _ | refine blk_drew ?_ | refine blk_alloc ?_ _)); exact BK235.out⟩, ⟨by repeat (first | (with_reducible first | exact HB.out | apply below_alloc | apply pw_below_drewN | apply below_drew1 | refine below_set ?_ GE235.out) | exact HB.out)⟩⟩
        case round =>
          clear H'
          try clear c1
          try clear p2
          try clear q2
          try clear hx2
          try clear c3
          try clear c3b0
          try clear c5
          try clear c5b0
          try clear c5b1
          try clear c5b2
          try clear c6
          try clear c6b0
          try clear c6b1
          try clear c6b2
          try clear p6
          try clear c7
          try clear c7b0
          try clear c9
          try clear c9b0
          try clear c9b1
          try clear c9b2
          try clear c10
          try clear c10b0
          try clear c10b1
          try clear c10b2
          try clear c13
          try clear hcz11_0
          try clear hcz11_1
          try clear hcz11_2
          try clear hcz11_3
          try clear hcz14_0
          try clear hcz14_1
          try clear hcz14_2
          try clear hcz14_3
          try clear hfz11_0
          try clear hfz11_1
          try clear hfz11_2
          try clear hfz11_3
          try clear hfz14_0
          try clear hfz14_1
          try clear hfz14_2
          try clear hfz14_3
          try clear hx237_0
          try clear hx237_1
          try clear hx237_2
          try clear hx237_3
          try clear hx237_4
          try clear hx237_5
          try clear p2
          try clear p237
          try clear q237
          obtain ⟨x3_2, x5_2, rfl, rfl, HA, HK2, BK235, HB⟩ := hrel
          cases gk with
          | zero => exact absurd HA.out (by simp [mimesisref23_Text.l1])
          | succ k2 =>
            have H := HA.out
            clear HA
            simp only [mimesisref23_Text.l1] at H
            by_cases c15 : x5_2 < (l0_2.length : Int)
            · rw [if_pos c15] at H
              have c15b0 : decide (x5_2 < (l0_2.length : Int)) = true := decide_eq_true c15
              clear c15
              by_cases c16 : 0 ≤ x5_2
              · rw [if_pos c16] at H
                have c16b0 : decide (0 ≤ x5_2) = true := decide_eq_true c16
                clear c16
                by_cases c17 : x3_2.size + 1 ≤ 9223372036854775807
                · rw [if_pos c17] at H
                  have c17b0 := eq_true c17
                  have c17b1 : decide (x3_2.size + 1 ≤ 9223372036854775807) = true := decide_eq_true c17
                  try have c17b2 : (9223372036854775807 < x3_2.size + 1) = False := eq_false (Nat.not_lt.2 c17)
                  try have c17b3 := c17b2
                  try simp only [ByteArray.size_append, szt_0, szt_1, szt_2, szt_3, szt_4, szt_5, szt_6, szt_7, szt_8, szt_9, szt_10, szt_11, szt_12, szt_13] at c17b3
                  replace H := Option.bind_eq_some_iff.mp H
                  obtain ⟨t242, A180, H⟩ := H
                  replace H : (if (x3_2 ++ (⟨#[33]⟩ : ByteArray)).size + t242.size ≤ 9223372036854775807 then (if ((x3_2 ++ (⟨#[33]⟩ : ByteArray)) ++ t242).size + 6 ≤ 9223372036854775807 then ((mimesisref23_num.f k2 ((rd_T59 l0_2 x5_2).f0)).bind fun t243 => (if (((x3_2 ++ (⟨#[33]⟩ : ByteArray)) ++ t242) ++ (⟨#[32, 100, 111, 110, 101, 32]⟩ : ByteArray)).size + t243.size ≤ 9223372036854775807 then (if ((rd_T59 l0_2 x5_2).f2) = (-1) then (if ((((x3_2 ++ (⟨#[33]⟩ : ByteArray)) ++ t242) ++ (⟨#[32, 100, 111, 110, 101, 32]⟩ : ByteArray)) ++ t243).size + 4 ≤ 9223372036854775807 then ((mimesisref01_Hex.f k2 ((rd_T59 l0_2 x5_2).f1)).bind fun t244 => (if (((((x3_2 ++ (⟨#[33]⟩ : ByteArray)) ++ t242) ++ (⟨#[32, 100, 111, 110, 101, 32]⟩ : ByteArray)) ++ t243) ++ (⟨#[32, 97, 116, 32]⟩ : ByteArray)).size + t244.size ≤ 9223372036854775807 then (mimesisref23_Text.j2 k2 ((((((x3_2 ++ (⟨#[33]⟩ : ByteArray)) ++ t242) ++ (⟨#[32, 100, 111, 110, 101, 32]⟩ : ByteArray)) ++ t243) ++ (⟨#[32, 97, 116, 32]⟩ : ByteArray)) ++ t244) x5_2 l0_0 l0_1 l0_2 a0_3 ((rd_T59 l0_2 x5_2).f0) ((rd_T59 l0_2 x5_2).f1) ((rd_T59 l0_2 x5_2).f2) ((rd_T59 l0_2 x5_2).f3) ((rd_T59 l0_2 x5_2).f4)) else (none))) else (none)) else (if ((((x3_2 ++ (⟨#[33]⟩ : ByteArray)) ++ t242) ++ (⟨#[32, 100, 111, 110, 101, 32]⟩ : ByteArray)) ++ t243).size + 4 ≤ 9223372036854775807 then ((mimesisref23_num.f k2 ((rd_T59 l0_2 x5_2).f2)).bind fun t245 => (if (((((x3_2 ++ (⟨#[33]⟩ : ByteArray)) ++ t242) ++ (⟨#[32, 100, 111, 110, 101, 32]⟩ : ByteArray)) ++ t243) ++ (⟨#[32, 116, 111, 32]⟩ : ByteArray)).size + t245.size ≤ 9223372036854775807 then (mimesisref23_Text.j2 k2 ((((((x3_2 ++ (⟨#[33]⟩ : ByteArray)) ++ t242) ++ (⟨#[32, 100, 111, 110, 101, 32]⟩ : ByteArray)) ++ t243) ++ (⟨#[32, 116, 111, 32]⟩ : ByteArray)) ++ t245) x5_2 l0_0 l0_1 l0_2 a0_3 ((rd_T59 l0_2 x5_2).f0) ((rd_T59 l0_2 x5_2).f1) ((rd_T59 l0_2 x5_2).f2) ((rd_T59 l0_2 x5_2).f3) ((rd_T59 l0_2 x5_2).f4)) else (none))) else (none))) else (none))) else (none)) else (none)) = some r := H
                  have A18 := Aside0.mk A180
                  clear A180
                  by_cases c19 : (x3_2 ++ (⟨#[33]⟩ : ByteArray)).size + t242.size ≤ 9223372036854775807
                  · rw [if_pos c19] at H
                    have c19b0 := eq_true c19
                    have c19b1 : decide ((x3_2 ++ (⟨#[33]⟩ : ByteArray)).size + t242.size ≤ 9223372036854775807) = true := decide_eq_true c19
                    try have c19b2 : (9223372036854775807 < (x3_2 ++ (⟨#[33]⟩ : ByteArray)).size + t242.size) = False := eq_false (Nat.not_lt.2 c19)
                    try have c19b3 := c19b2
                    try simp only [ByteArray.size_append, szt_0, szt_1, szt_2, szt_3, szt_4, szt_5, szt_6, szt_7, szt_8, szt_9, szt_10, szt_11, szt_12, szt_13] at c19b3
                    by_cases c20 : ((x3_2 ++ (⟨#[33]⟩ : ByteArray)) ++ t242).size + 6 ≤ 9223372036854775807
                    · rw [if_pos c20] at H
                      have c20b0 := eq_true c20
                      have c20b1 : decide (((x3_2 ++ (⟨#[33]⟩ : ByteArray)) ++ t242).size + 6 ≤ 9223372036854775807) = true := decide_eq_true c20
                      try have c20b2 : (9223372036854775807 < ((x3_2 ++ (⟨#[33]⟩ : ByteArray)) ++ t242).size + 6) = False := eq_false (Nat.not_lt.2 c20)
                      try have c20b3 := c20b2
                      try simp only [ByteArray.size_append, szt_0, szt_1, szt_2, szt_3, szt_4, szt_5, szt_6, szt_7, szt_8, szt_9, szt_10, szt_11, szt_12, szt_13] at c20b3
                      replace H := Option.bind_eq_some_iff.mp H
                      obtain ⟨t243, A210, H⟩ := H
                      replace H : (if (((x3_2 ++ (⟨#[33]⟩ : ByteArray)) ++ t242) ++ (⟨#[32, 100, 111, 110, 101, 32]⟩ : ByteArray)).size + t243.size ≤ 9223372036854775807 then (if ((rd_T59 l0_2 x5_2).f2) = (-1) then (if ((((x3_2 ++ (⟨#[33]⟩ : ByteArray)) ++ t242) ++ (⟨#[32, 100, 111, 110, 101, 32]⟩ : ByteArray)) ++ t243).size + 4 ≤ 9223372036854775807 then ((mimesisref01_Hex.f k2 ((rd_T59 l0_2 x5_2).f1)).bind fun t244 => (if (((((x3_2 ++ (⟨#[33]⟩ : ByteArray)) ++ t242) ++ (⟨#[32, 100, 111, 110, 101, 32]⟩ : ByteArray)) ++ t243) ++ (⟨#[32, 97, 116, 32]⟩ : ByteArray)).size + t244.size ≤ 9223372036854775807 then (mimesisref23_Text.j2 k2 ((((((x3_2 ++ (⟨#[33]⟩ : ByteArray)) ++ t242) ++ (⟨#[32, 100, 111, 110, 101, 32]⟩ : ByteArray)) ++ t243) ++ (⟨#[32, 97, 116, 32]⟩ : ByteArray)) ++ t244) x5_2 l0_0 l0_1 l0_2 a0_3 ((rd_T59 l0_2 x5_2).f0) ((rd_T59 l0_2 x5_2).f1) ((rd_T59 l0_2 x5_2).f2) ((rd_T59 l0_2 x5_2).f3) ((rd_T59 l0_2 x5_2).f4)) else (none))) else (none)) else (if ((((x3_2 ++ (⟨#[33]⟩ : ByteArray)) ++ t242) ++ (⟨#[32, 100, 111, 110, 101, 32]⟩ : ByteArray)) ++ t243).size + 4 ≤ 9223372036854775807 then ((mimesisref23_num.f k2 ((rd_T59 l0_2 x5_2).f2)).bind fun t245 => (if (((((x3_2 ++ (⟨#[33]⟩ : ByteArray)) ++ t242) ++ (⟨#[32, 100, 111, 110, 101, 32]⟩ : ByteArray)) ++ t243) ++ (⟨#[32, 116, 111, 32]⟩ : ByteArray)).size + t245.size ≤ 9223372036854775807 then (mimesisref23_Text.j2 k2 ((((((x3_2 ++ (⟨#[33]⟩ : ByteArray)) ++ t242) ++ (⟨#[32, 100, 111, 110, 101, 32]⟩ : ByteArray)) ++ t243) ++ (⟨#[32, 116, 111, 32]⟩ : ByteArray)) ++ t245) x5_2 l0_0 l0_1 l0_2 a0_3 ((rd_T59 l0_2 x5_2).f0) ((rd_T59 l0_2 x5_2).f1) ((rd_T59 l0_2 x5_2).f2) ((rd_T59 l0_2 x5_2).f3) ((rd_T59 l0_2 x5_2).f4)) else (none))) else (none))) else (none)) = some r := H
                      have A21 := Aside0.mk A210
                      clear A210
                      by_cases c22 : (((x3_2 ++ (⟨#[33]⟩ : ByteArray)) ++ t242) ++ (⟨#[32, 100, 111, 110, 101, 32]⟩ : ByteArray)).size + t243.size ≤ 9223372036854775807
                      · rw [if_pos c22] at H
                        have c22b0 := eq_true c22
                        have c22b1 : decide ((((x3_2 ++ (⟨#[33]⟩ : ByteArray)) ++ t242) ++ (⟨#[32, 100, 111, 110, 101, 32]⟩ : ByteArray)).size + t243.size ≤ 9223372036854775807) = true := decide_eq_true c22
                        try have c22b2 : (9223372036854775807 < (((x3_2 ++ (⟨#[33]⟩ : ByteArray)) ++ t242) ++ (⟨#[32, 100, 111, 110, 101, 32]⟩ : ByteArray)).size + t243.size) = False := eq_false (Nat.not_lt.2 c22)
                        try have c22b3 := c22b2
                        try simp only [ByteArray.size_append, szt_0, szt_1, szt_2, szt_3, szt_4, szt_5, szt_6, szt_7, szt_8, szt_9, szt_10, szt_11, szt_12, szt_13] at c22b3
                        have HC23 := Aside0.mk H
                        clear H
                        have hcz24_0 : wr.cell? ⟨gb235, 0, none⟩ = some (.slice A0_0 l0_0.length c0_0) := (blk_cell BK235.out 0).trans rfl
                        have hcz24_1 : wr.cell? ⟨gb235, 1, none⟩ = some (.slice A0_1 l0_1.length c0_1) := (blk_cell BK235.out 1).trans rfl
                        have hcz24_2 : wr.cell? ⟨gb235, 2, none⟩ = some (.slice A0_2 l0_2.length c0_2) := (blk_cell BK235.out 2).trans rfl
                        have hcz24_3 : wr.cell? ⟨gb235, 3, none⟩ = some (.int .i64 a0_3) := (blk_cell BK235.out 3).trans rfl
                        have hfz24_0 := blk_frozen BK235.out 0
                        have hfz24_1 := blk_frozen BK235.out 1
                        have hfz24_2 := blk_frozen BK235.out 2
                        have hfz24_3 := blk_frozen BK235.out 3
                        have p240 : 0 ≤ (x5_2 : Int) := of_decide_eq_true (by first | (with_reducible assumption) | assumption)
                        have q240 : x5_2 < (l0_2.length : Int) := of_decide_eq_true (by first | (with_reducible assumption) | assumption)
                        obtain ⟨ad240, A240_4, c240_4, e240, hx240_0, hx240_1, hx240_2, hx240_3, hx240_4, hl240_4, hi240_4⟩ := at_T59 HR0_2.out x5_2 p240 q240
                        cases e240
                        replace hx240_0 := (HB.out.cell (World.block_lt_of_cell? w _ hx240_0)).trans hx240_0
                        replace hx240_1 := (HB.out.cell (World.block_lt_of_cell? w _ hx240_1)).trans hx240_1
                        replace hx240_2 := (HB.out.cell (World.block_lt_of_cell? w _ hx240_2)).trans hx240_2
                        replace hx240_3 := (HB.out.cell (World.block_lt_of_cell? w _ hx240_3)).trans hx240_3
                        replace hx240_4 := (HB.out.cell (World.block_lt_of_cell? w _ hx240_4)).trans hx240_4
                        have HR240_4 := Aside0.mk hi240_4
                        have HC240_4 := Aside0.mk hl240_4
                        clear hi240_4 hl240_4
                        replace p240 := eq_true p240
                        replace q240 := eq_true q240
                        try go_wp2_with (first | ((with_reducible refine gate_dst (N := 6) rfl ?_); refine box_event ?hg (N := 6) ?hd (cs := #[.int .i64 0, .int .u32 0, .int .i64 0, .int .i64 0, .slice none 0 0]) (t := 59) ?hr ?_; (case hd => rfl); (case hg => rfl); (case hr => first | (go_simp; done) | (go_simp; rfl)); intro gb241 hg w25 hbox hb; have n0_ := Aside0.mk (blk_below (g := gb235) (o := .cells #[.slice A0_0 l0_0.length c0_0, .slice A0_1 l0_1.length c0_1, .slice (some ad240) l0_2.length c0_2, .int .i64 a0_3] 26 (0, 0)) (by (with_reducible repeat (first | refine blk_drewN ?_ _ | refine blk_drew ?_ | refine blk_alloc ?_ _)); exact BK235.out) hb); have n1_ := Aside0.mk (below_step (by repeat (first | (with_reducible first | exact HB.out | apply below_alloc | apply pw_below_drewN | apply below_drew1 | refine below_set ?_ GE235.out) | exact HB.out)) hb); have n2_ := Aside0.mk (hbox); have n3_ := Aside0.mk ((by rw [hg]; exact (below_size (by repeat (first | (with_reducible first | exact HB.out | apply below_alloc | apply pw_below_drewN | apply below_drew1 | refine below_set ?_ GE235.out) | exact HB.out))) : w.heap.size ≤ gb241)); have n4_ := Aside0.mk ((by rw [hg]; exact (below_size (by repeat (first | (with_reducible first | exact HB.out | apply below_alloc | apply pw_below_drewN | apply below_drew1 | refine below_set ?_ GE235.out) | exact HB.out))) : w.heap.size ≤ gb241)); have n5_ := Aside0.mk ((by rw [hg]; exact Nat.ne_of_lt (blk_lt (g := gb235) (o := .cells #[.slice A0_0 l0_0.length c0_0, .slice A0_1 l0_1.length c0_1, .slice (some ad240) l0_2.length c0_2, .int .i64 a0_3] 26 (0, 0)) (by (with_reducible repeat (first | refine blk_drewN ?_ _ | refine blk_drew ?_ | refine blk_alloc ?_ _)); exact BK235.out)) : gb235 ≠ gb241)); have n6_ := Aside0.mk ((by rw [hg]; exact Nat.ne_of_gt (blk_lt (g := gb235) (o := .cells #[.slice A0_0 l0_0.length c0_0, .slice A0_1 l0_1.length c0_1, .slice (some ad240) l0_2.length c0_2, .int .i64 a0_3] 26 (0, 0)) (by (with_reducible repeat (first | refine blk_drewN ?_ _ | refine blk_drew ?_ | refine blk_alloc ?_ _)); exact BK235.out)) : gb241 ≠ gb235)); clear BK235; clear HB; have BK235 := n0_; have HB := n1_; have BK241 := n2_; have GW241 := n3_; have GE241 := n4_; have NB235_241 := n5_; have NB241_235 := n6_; clear n0_ n1_ n2_ n3_ n4_ n5_ n6_; clear hb hbox hg; have hnb26 := NB241_235.out; have hnc26 := NB235_241.out; have hcz27_0 : w25.cell? ⟨gb241, 0, none⟩ = some (.int .i64 0) := (blk_cell BK241.out 0).trans rfl; have hcz27_1 : w25.cell? ⟨gb241, 1, none⟩ = some (.int .u32 0) := (blk_cell BK241.out 1).trans rfl; have hcz27_2 : w25.cell? ⟨gb241, 2, none⟩ = some (.int .i64 0) := (blk_cell BK241.out 2).trans rfl; have hcz27_3 : w25.cell? ⟨gb241, 3, none⟩ = some (.int .i64 0) := (blk_cell BK241.out 3).trans rfl; have hcz27_4 : w25.cell? ⟨gb241, 4, none⟩ = some (.slice none 0 0) := (blk_cell BK241.out 4).trans rfl; have hfz27_0 := blk_frozen BK241.out 0; have hfz27_1 := blk_frozen BK241.out 1; have hfz27_2 := blk_frozen BK241.out 2; have hfz27_3 := blk_frozen BK241.out 3; have hfz27_4 := blk_frozen BK241.out 4))
                        have n0_ : Aside0 ((((((w25.setCell ⟨gb241, 0, none⟩ (.int .i64 ((rd_T59 l0_2 x5_2).f0))).setCell ⟨gb241, 1, none⟩ (.int .u32 ((rd_T59 l0_2 x5_2).f1))).setCell ⟨gb241, 2, none⟩ (.int .i64 ((rd_T59 l0_2 x5_2).f2))).setCell ⟨gb241, 3, none⟩ (.int .i64 ((rd_T59 l0_2 x5_2).f3))).setCell ⟨gb241, 4, none⟩ (.slice A240_4 ((rd_T59 l0_2 x5_2).f4).length c240_4)).heap[gb235]? = some (.cells #[.slice A0_0 l0_0.length c0_0, .slice A0_1 l0_1.length c0_1, .slice (some ad240) l0_2.length c0_2, .int .i64 a0_3] 26 (0, 0))) := ⟨by (with_reducible repeat (first | refine blk_drewN ?_ _ | refine blk_drew ?_ | refine blk_alloc ?_ _)); refine blk_far ?_ NB235_241.out _; (with_reducible repeat (first | refine blk_drewN ?_ _ | refine blk_drew ?_ | refine blk_alloc ?_ _)); refine blk_far ?_ NB235_241.out _; (with_reducible repeat (first | refine blk_drewN ?_ _ | refine blk_drew ?_ | refine blk_alloc ?_ _)); refine blk_far ?_ NB235_241.out _; (with_reducible repeat (first | refine blk_drewN ?_ _ | refine blk_drew ?_ | refine blk_alloc ?_ _)); refine blk_far ?_ NB235_241.out _; (with_reducible repeat (first | refine blk_drewN ?_ _ | refine blk_drew ?_ | refine blk_alloc ?_ _)); refine blk_far ?_ NB235_241.out _; (with_reducible repeat (first | refine blk_drewN ?_ _ | refine blk_drew ?_ | refine blk_alloc ?_ _)); exact BK235.out⟩
                        have n1_ : Aside0 ((((((w25.setCell ⟨gb241, 0, none⟩ (.int .i64 ((rd_T59 l0_2 x5_2).f0))).setCell ⟨gb241, 1, none⟩ (.int .u32 ((rd_T59 l0_2 x5_2).f1))).setCell ⟨gb241, 2, none⟩ (.int .i64 ((rd_T59 l0_2 x5_2).f2))).setCell ⟨gb241, 3, none⟩ (.int .i64 ((rd_T59 l0_2 x5_2).f3))).setCell ⟨gb241, 4, none⟩ (.slice A240_4 ((rd_T59 l0_2 x5_2).f4).length c240_4)).heap[gb241]? = some (.cells #[.int .i64 ((rd_T59 l0_2 x5_2).f0), .int .u32 ((rd_T59 l0_2 x5_2).f1), .int .i64 ((rd_T59 l0_2 x5_2).f2), .int .i64 ((rd_T59 l0_2 x5_2).f3), .slice A240_4 ((rd_T59 l0_2 x5_2).f4).length c240_4] 59 (0, 0))) := ⟨by (with_reducible repeat (first | refine blk_drewN ?_ _ | refine blk_drew ?_ | refine blk_alloc ?_ _)); refine blk_put (cs := #[.int .i64 ((rd_T59 l0_2 x5_2).f0), .int .u32 ((rd_T59 l0_2 x5_2).f1), .int .i64 ((rd_T59 l0_2 x5_2).f2), .int .i64 ((rd_T59 l0_2 x5_2).f3), .slice none 0 0]) ?_ 4 _ rfl; (with_reducible repeat (first | refine blk_drewN ?_ _ | refine blk_drew ?_ | refine blk_alloc ?_ _)); refine blk_put (cs := #[.int .i64 ((rd_T59 l0_2 x5_2).f0), .int .u32 ((rd_T59 l0_2 x5_2).f1), .int .i64 ((rd_T59 l0_2 x5_2).f2), .int .i64 0, .slice none 0 0]) ?_ 3 _ rfl; (with_reducible repeat (first | refine blk_drewN ?_ _ | refine blk_drew ?_ | refine blk_alloc ?_ _)); refine blk_put (cs := #[.int .i64 ((rd_T59 l0_2 x5_2).f0), .int .u32 ((rd_T59 l0_2 x5_2).f1), .int .i64 0, .int .i64 0, .slice none 0 0]) ?_ 2 _ rfl; (with_reducible repeat (first | refine blk_drewN ?_ _ | refine blk_drew ?_ | refine blk_alloc ?_ _)); refine blk_put (cs := #[.int .i64 ((rd_T59 l0_2 x5_2).f0), .int .u32 0, .int .i64 0, .int .i64 0, .slice none 0 0]) ?_ 1 _ rfl; (with_reducible repeat (first | refine blk_drewN ?_ _ | refine blk_drew ?_ | refine blk_alloc ?_ _)); refine blk_put (cs := #[.int .i64 0, .int .u32 0, .int .i64 0, .int .i64 0, .slice none 0 0]) ?_ 0 _ rfl; (with_reducible repeat (first | refine blk_drewN ?_ _ | refine blk_drew ?_ | refine blk_alloc ?_ _)); exact BK241.out⟩
                        have n2_ : Aside0 (Below w.heap.size w (((((w25.setCell ⟨gb241, 0, none⟩ (.int .i64 ((rd_T59 l0_2 x5_2).f0))).setCell ⟨gb241, 1, none⟩ (.int .u32 ((rd_T59 l0_2 x5_2).f1))).setCell ⟨gb241, 2, none⟩ (.int .i64 ((rd_T59 l0_2 x5_2).f2))).setCell ⟨gb241, 3, none⟩ (.int .i64 ((rd_T59 l0_2 x5_2).f3))).setCell ⟨gb241, 4, none⟩ (.slice A240_4 ((rd_T59 l0_2 x5_2).f4).length c240_4))) := ⟨by repeat (first | (with_reducible first | exact HB.out | apply below_alloc | apply pw_below_drewN | apply below_drew1 | refine below_set ?_ GE235.out | refine below_set ?_ GE241.out) | exact HB.out)⟩
                        (try clear BK235)
                        (try clear BK241)
                        (try clear HB)
                        generalize (((((w25.setCell ⟨gb241, 0, none⟩ (.int .i64 ((rd_T59 l0_2 x5_2).f0))).setCell ⟨gb241, 1, none⟩ (.int .u32 ((rd_T59 l0_2 x5_2).f1))).setCell ⟨gb241, 2, none⟩ (.int .i64 ((rd_T59 l0_2 x5_2).f2))).setCell ⟨gb241, 3, none⟩ (.int .i64 ((rd_T59 l0_2 x5_2).f3))).setCell ⟨gb241, 4, none⟩ (.slice A240_4 ((rd_T59 l0_2 x5_2).f4).length c240_4)) = w28 at n0_ n1_ n2_ ⊢
                        have BK235 := n0_
                        have BK241 := n1_
                        have HB := n2_
                        clear n0_ n1_ n2_
                        have n0_ := Aside0.mk (blk_drew BK235.out)
                        have n1_ := Aside0.mk (blk_drew BK241.out)
                        have n2_ := Aside0.mk (below_drew1 HB.out)
                        clear BK235
                        clear BK241
                        clear HB
                        have BK235 := n0_
                        have BK241 := n1_
                        have HB := n2_
                        clear n0_ n1_ n2_
                        refine start_ (n := 11) (S := fun w' => w'.cell? ⟨gb241, 0, none⟩ = some (.int .i64 ((rd_T59 l0_2 x5_2).f0)) ∧ w'.cell? ⟨gb241, 1, none⟩ = some (.int .u32 ((rd_T59 l0_2 x5_2).f1)) ∧ w'.cell? ⟨gb241, 2, none⟩ = some (.int .i64 ((rd_T59 l0_2 x5_2).f2)) ∧ w'.cell? ⟨gb241, 3, none⟩ = some (.int .i64 ((rd_T59 l0_2 x5_2).f3)) ∧ w'.cell? ⟨gb241, 4, none⟩ = some (.slice A240_4 ((rd_T59 l0_2 x5_2).f4).length c240_4)) (ds := []) #[false, false, false, false, false, false, false, false, false, false, false] (by kernel_rfl) rfl rfl ⟨(blk_cell BK241.out 0).trans rfl, (blk_cell BK241.out 1).trans rfl, (blk_cell BK241.out 2).trans rfl, (blk_cell BK241.out 3).trans rfl, (blk_cell BK241.out 4).trans rfl⟩ (fun hHeld => ?_); refine with_tabW mimesisref23_Text.tab10 mimesisref23_Text.bits10 (fun HT_ HW_ => ?_)
                        generalize w28.drew = w29 at BK235 BK241 HB hHeld ⊢
                        refine pure_ (i := 0) (N := some 40) (v := ?_) (a' := ?_) #[true, false, false, false, false, false, false, false, false, false, false] rfl rfl (any_of HT_.out (by kernel_rfl)) (fun _ _ _ h => h) (Or.inl ⟨by rfl, ?_⟩) ?_ ?_
                        rotate_left
                        · intro w'
                          go_simp
                          with_reducible rfl
                        rotate_left
                        · simp only [Act.put, List.setIfInBounds_toArray, List.set_cons_zero, List.set_cons_succ, i64_w, i32_w]
                          rfl
                        refine pure_ (i := 1) (N := some 41) (v := ?_) (a' := ?_) #[true, true, false, false, false, false, false, false, false, false, false] rfl rfl (any_of HT_.out (by kernel_rfl)) (fun _ _ _ h => h) (Or.inl ⟨by rfl, ?_⟩) ?_ ?_
                        rotate_left
                        · intro w'
                          go_simp
                          with_reducible rfl
                        rotate_left
                        · simp only [Act.put, List.setIfInBounds_toArray, List.set_cons_zero, List.set_cons_succ, i64_w, i32_w]
                          rfl
                        refine pure_ (i := 2) (N := some 42) (v := ?_) (a' := ?_) #[true, true, true, false, false, false, false, false, false, false, false] rfl rfl (any_of HT_.out (by kernel_rfl)) (fun _ _ _ h => h) (Or.inl ⟨by rfl, ?_⟩) ?_ ?_
                        rotate_left
                        · intro w'
                          go_simp
                          with_reducible rfl
                        rotate_left
                        · simp only [Act.put, List.setIfInBounds_toArray, List.set_cons_zero, List.set_cons_succ, i64_w, i32_w]
                          rfl
                        refine pure_ (i := 6) (N := some 46) (v := ?_) (a' := ?_) #[true, true, true, false, false, false, true, false, false, false, false] rfl rfl (any_of HT_.out (by kernel_rfl)) (fun _ _ _ h => h) (Or.inl ⟨by rfl, ?_⟩) ?_ ?_
                        rotate_left
                        · intro w'
                          go_simp
                          with_reducible rfl
                        rotate_left
                        · simp only [Act.put, List.setIfInBounds_toArray, List.set_cons_zero, List.set_cons_succ, i64_w, i32_w]
                          rfl
                        refine take_ (i := 7) (N := some 47) (v := ?_) (a' := ?_) #[true, true, true, false, false, false, true, true, false, false, false] rfl rfl (take_ofW HT_.out HW_.out (by kernel_rfl)) (fun _ _ _ h => h) (Or.inl ⟨by rfl, ?_⟩) hHeld ?_ ?_
                        rotate_left
                        · rintro w' ⟨s0, s1, s2, s3, s4⟩
                          go_simp
                          with_reducible rfl
                        rotate_left
                        · simp only [Act.put, List.setIfInBounds_toArray, List.set_cons_zero, List.set_cons_succ, i64_w, i32_w]
                          rfl
                        refine one_ (i := 3) (N := some 43) #[true, true, true, true, false, false, true, true, false, false, false] rfl rfl (one_of HT_.out (by kernel_rfl)) (by decide) (fun K hK => ?_)
                        refine goes_ Tryd.func30 (by kernel_rfl) rfl #[.int .i64 x5_2] (by rfl) rfl rfl (by (try simp only [List.map_toArray, List.map_cons, List.map_nil]); first | done | rfl | (simp only [List.length_drop, List.length_take]; rfl)) ?_
                        with_reducible refine (mimesisref23_num.calls k2 x5_2 t242 _ A18.out).mono ?_
                        rintro e w' ⟨rfl, ⟨nd, rfl⟩⟩
                        refine ⟨_, rfl, ?_⟩
                        refine hK.out _ _ ⟨(blk_cell BK241.out 0).trans rfl, (blk_cell BK241.out 1).trans rfl, (blk_cell BK241.out 2).trans rfl, (blk_cell BK241.out 3).trans rfl, (blk_cell BK241.out 4).trans rfl⟩ (fun hHeld => ?_)
                        clear hK K
                        refine norm_ (a' := ?_) ?_ ?_
                        rotate_left
                        · show Act.put _ (some 43) _ = _
                          simp only [Act.put, List.setIfInBounds_toArray, List.set_cons_zero, List.set_cons_succ, i64_w, i32_w]
                          rfl
                        refine pure_ (i := 4) (N := some 44) (v := ?_) (a' := ?_) #[true, true, true, true, true, false, true, true, false, false, false] rfl rfl (any_of HT_.out (by kernel_rfl)) (fun _ _ _ h => h) (Or.inl ⟨by rfl, ?_⟩) ?_ ?_
                        rotate_left
                        · intro w'
                          go_simp
                          with_reducible rfl
                        rotate_left
                        · simp only [Act.put, List.setIfInBounds_toArray, List.set_cons_zero, List.set_cons_succ, i64_w, i32_w]
                          rfl
                        refine pure_ (i := 5) (N := some 45) (v := ?_) (a' := ?_) #[true, true, true, true, true, true, true, true, false, false, false] rfl rfl (any_of HT_.out (by kernel_rfl)) (fun _ _ _ h => h) (Or.inl ⟨by rfl, ?_⟩) ?_ ?_
                        rotate_left
                        · intro w'
                          go_simp
                          with_reducible rfl
                        rotate_left
                        · simp only [Act.put, List.setIfInBounds_toArray, List.set_cons_zero, List.set_cons_succ, i64_w, i32_w]
                          rfl
                        refine one_ (i := 8) (N := some 48) #[true, true, true, true, true, true, true, true, true, false, false] rfl rfl (one_of HT_.out (by kernel_rfl)) (by decide) (fun K hK => ?_)
                        refine goes_ Tryd.func30 (by kernel_rfl) rfl #[.int .i64 ((rd_T59 l0_2 x5_2).f0)] (by rfl) rfl rfl (by (try simp only [List.map_toArray, List.map_cons, List.map_nil]); first | done | rfl | (simp only [List.length_drop, List.length_take]; rfl)) ?_
                        with_reducible refine (mimesisref23_num.calls k2 ((rd_T59 l0_2 x5_2).f0) t243 _ A21.out).mono ?_
                        rintro e w' ⟨rfl, ⟨nd, rfl⟩⟩
                        refine ⟨_, rfl, ?_⟩
                        refine hK.out _ _ ⟨(blk_cell BK241.out 0).trans rfl, (blk_cell BK241.out 1).trans rfl, (blk_cell BK241.out 2).trans rfl, (blk_cell BK241.out 3).trans rfl, (blk_cell BK241.out 4).trans rfl⟩ (fun hHeld => ?_)
                        clear hK K
                        refine norm_ (a' := ?_) ?_ ?_
                        rotate_left
                        · show Act.put _ (some 48) _ = _
                          simp only [Act.put, List.setIfInBounds_toArray, List.set_cons_zero, List.set_cons_succ, i64_w, i32_w]
                          rfl
                        refine pure_ (i := 9) (N := some 49) (v := ?_) (a' := ?_) #[true, true, true, true, true, true, true, true, true, true, false] rfl rfl (any_of HT_.out (by kernel_rfl)) (fun _ _ _ h => h) (Or.inl ⟨by rfl, ?_⟩) ?_ ?_
                        rotate_left
                        · intro w'
                          go_simp
                          with_reducible rfl
                        rotate_left
                        · simp only [Act.put, List.setIfInBounds_toArray, List.set_cons_zero, List.set_cons_succ, i64_w, i32_w]
                          rfl
                        refine pure_ (i := 10) (N := some 3) (v := ?_) (a' := ?_) #[true, true, true, true, true, true, true, true, true, true, true] rfl rfl (any_of HT_.out (by kernel_rfl)) (fun _ _ _ h => h) (Or.inl ⟨by rfl, ?_⟩) ?_ ?_
                        rotate_left
                        · intro w'
                          go_simp
                          with_reducible rfl
                        rotate_left
                        · simp only [Act.put, List.setIfInBounds_toArray, List.set_cons_zero, List.set_cons_succ, i64_w, i32_w]
                          rfl
                        refine done_ (done_of HT_.out (by kernel_rfl)) ?_
                        have hcz30_0 : w29.cell? ⟨gb241, 0, none⟩ = some (.int .i64 ((rd_T59 l0_2 x5_2).f0)) := (blk_cell BK241.out 0).trans rfl
                        have hcz30_1 : w29.cell? ⟨gb241, 1, none⟩ = some (.int .u32 ((rd_T59 l0_2 x5_2).f1)) := (blk_cell BK241.out 1).trans rfl
                        have hcz30_2 : w29.cell? ⟨gb241, 2, none⟩ = some (.int .i64 ((rd_T59 l0_2 x5_2).f2)) := (blk_cell BK241.out 2).trans rfl
                        have hcz30_3 : w29.cell? ⟨gb241, 3, none⟩ = some (.int .i64 ((rd_T59 l0_2 x5_2).f3)) := (blk_cell BK241.out 3).trans rfl
                        have hcz30_4 : w29.cell? ⟨gb241, 4, none⟩ = some (.slice A240_4 ((rd_T59 l0_2 x5_2).f4).length c240_4) := (blk_cell BK241.out 4).trans rfl
                        have hfz30_0 := blk_frozen BK241.out 0
                        have hfz30_1 := blk_frozen BK241.out 1
                        have hfz30_2 := blk_frozen BK241.out 2
                        have hfz30_3 := blk_frozen BK241.out 3
                        have hfz30_4 := blk_frozen BK241.out 4
                        go_upto_if 52 with (fail)
                        go_cut [3] (fun v3 wc => ∃ (kq : Nat) (x3_22 : ByteArray), v3 = .string x3_22 ∧ Aside0 (mimesisref23_Text.j2 kq x3_22 x5_2 l0_0 l0_1 l0_2 a0_3 ((rd_T59 l0_2 x5_2).f0) ((rd_T59 l0_2 x5_2).f1) ((rd_T59 l0_2 x5_2).f2) ((rd_T59 l0_2 x5_2).f3) ((rd_T59 l0_2 x5_2).f4) = some r) ∧ Aside0 (kq ≤ k2) ∧ Aside0 (wc.heap[gb235]? = some (.cells #[(.slice A0_0 l0_0.length c0_0), (.slice A0_1 l0_1.length c0_1), (.slice (some ad240) l0_2.length c0_2), .int .i64 a0_3] 26 (0, 0))) ∧ Aside0 (wc.heap[gb241]? = some (.cells #[.int .i64 ((rd_T59 l0_2 x5_2).f0), .int .u32 ((rd_T59 l0_2 x5_2).f1), .int .i64 ((rd_T59 l0_2 x5_2).f2), .int .i64 ((rd_T59 l0_2 x5_2).f3), (.slice A240_4 ((rd_T59 l0_2 x5_2).f4).length c240_4)] 59 (0, 0))) ∧ Aside0 (Below w.heap.size w wc))
                        case first =>
                          have H := HC23.out
                          clear HC23
                          by_cases c31 : ((rd_T59 l0_2 x5_2).f2) = (-1)
                          · rw [if_pos c31] at H
                            have c31b0 : (((rd_T59 l0_2 x5_2).f2) == (-1)) = true := beq_iff_eq.mpr c31
                            have c31b1 : (((rd_T59 l0_2 x5_2).f2) != (-1)) = false := bne_eq_false_iff_eq.mpr c31
                            clear c31
                            (first | rw [c31b0] | (simp only [i64_w, i32_w]; rw [c31b0]) | skip)
                            by_cases c32 : ((((x3_2 ++ (⟨#[33]⟩ : ByteArray)) ++ t242) ++ (⟨#[32, 100, 111, 110, 101, 32]⟩ : ByteArray)) ++ t243).size + 4 ≤ 9223372036854775807
                            · rw [if_pos c32] at H
                              have c32b0 := eq_true c32
                              have c32b1 : decide (((((x3_2 ++ (⟨#[33]⟩ : ByteArray)) ++ t242) ++ (⟨#[32, 100, 111, 110, 101, 32]⟩ : ByteArray)) ++ t243).size + 4 ≤ 9223372036854775807) = true := decide_eq_true c32
                              try have c32b2 : (9223372036854775807 < ((((x3_2 ++ (⟨#[33]⟩ : ByteArray)) ++ t242) ++ (⟨#[32, 100, 111, 110, 101, 32]⟩ : ByteArray)) ++ t243).size + 4) = False := eq_false (Nat.not_lt.2 c32)
                              try have c32b3 := c32b2
                              try simp only [ByteArray.size_append, szt_0, szt_1, szt_2, szt_3, szt_4, szt_5, szt_6, szt_7, szt_8, szt_9, szt_10, szt_11, szt_12, szt_13] at c32b3
                              replace H := Option.bind_eq_some_iff.mp H
                              obtain ⟨t244, A330, H⟩ := H
                              replace H : (if (((((x3_2 ++ (⟨#[33]⟩ : ByteArray)) ++ t242) ++ (⟨#[32, 100, 111, 110, 101, 32]⟩ : ByteArray)) ++ t243) ++ (⟨#[32, 97, 116, 32]⟩ : ByteArray)).size + t244.size ≤ 9223372036854775807 then (mimesisref23_Text.j2 k2 ((((((x3_2 ++ (⟨#[33]⟩ : ByteArray)) ++ t242) ++ (⟨#[32, 100, 111, 110, 101, 32]⟩ : ByteArray)) ++ t243) ++ (⟨#[32, 97, 116, 32]⟩ : ByteArray)) ++ t244) x5_2 l0_0 l0_1 l0_2 a0_3 ((rd_T59 l0_2 x5_2).f0) ((rd_T59 l0_2 x5_2).f1) ((rd_T59 l0_2 x5_2).f2) ((rd_T59 l0_2 x5_2).f3) ((rd_T59 l0_2 x5_2).f4)) else (none)) = some r := H
                              have A33 := Aside0.mk A330
                              clear A330
                              by_cases c34 : (((((x3_2 ++ (⟨#[33]⟩ : ByteArray)) ++ t242) ++ (⟨#[32, 100, 111, 110, 101, 32]⟩ : ByteArray)) ++ t243) ++ (⟨#[32, 97, 116, 32]⟩ : ByteArray)).size + t244.size ≤ 9223372036854775807
                              · rw [if_pos c34] at H
                                have c34b0 := eq_true c34
                                have c34b1 : decide ((((((x3_2 ++ (⟨#[33]⟩ : ByteArray)) ++ t242) ++ (⟨#[32, 100, 111, 110, 101, 32]⟩ : ByteArray)) ++ t243) ++ (⟨#[32, 97, 116, 32]⟩ : ByteArray)).size + t244.size ≤ 9223372036854775807) = true := decide_eq_true c34
                                try have c34b2 : (9223372036854775807 < (((((x3_2 ++ (⟨#[33]⟩ : ByteArray)) ++ t242) ++ (⟨#[32, 100, 111, 110, 101, 32]⟩ : ByteArray)) ++ t243) ++ (⟨#[32, 97, 116, 32]⟩ : ByteArray)).size + t244.size) = False := eq_false (Nat.not_lt.2 c34)
                                try have c34b3 := c34b2
                                try simp only [ByteArray.size_append, szt_0, szt_1, szt_2, szt_3, szt_4, szt_5, szt_6, szt_7, szt_8, szt_9, szt_10, szt_11, szt_12, szt_13] at c34b3
                                have H' := Aside0.mk H
                                clear H
                                have hnb35 := NB241_235.out
                                have hnc35 := NB235_241.out
                                have hcz36_0 : w29.cell? ⟨gb241, 0, none⟩ = some (.int .i64 ((rd_T59 l0_2 x5_2).f0)) := (blk_cell BK241.out 0).trans rfl
                                have hcz36_1 : w29.cell? ⟨gb241, 1, none⟩ = some (.int .u32 ((rd_T59 l0_2 x5_2).f1)) := (blk_cell BK241.out 1).trans rfl
                                have hcz36_2 : w29.cell? ⟨gb241, 2, none⟩ = some (.int .i64 ((rd_T59 l0_2 x5_2).f2)) := (blk_cell BK241.out 2).trans rfl
                                have hcz36_3 : w29.cell? ⟨gb241, 3, none⟩ = some (.int .i64 ((rd_T59 l0_2 x5_2).f3)) := (blk_cell BK241.out 3).trans rfl
                                have hcz36_4 : w29.cell? ⟨gb241, 4, none⟩ = some (.slice A240_4 ((rd_T59 l0_2 x5_2).f4).length c240_4) := (blk_cell BK241.out 4).trans rfl
                                have hfz36_0 := blk_frozen BK241.out 0
                                have hfz36_1 := blk_frozen BK241.out 1
                                have hfz36_2 := blk_frozen BK241.out 2
                                have hfz36_3 := blk_frozen BK241.out 3
                                have hfz36_4 := blk_frozen BK241.out 4
                                go_wp2_with (first | ((with_reducible refine gate_callee (f := 32) rfl ?_); refine goesL_ (some 57) rfl rfl Tryd.func32 (by kernel_rfl) rfl #[.int .u32 ((rd_T59 l0_2 x5_2).f1)] rfl (by (try simp only [List.map_toArray, List.map_cons, List.map_nil]); first | done | rfl | (simp only [List.length_drop, List.length_take]; rfl)) ?_; (with_reducible refine (mimesisref01_Hex.calls k2 ((rd_T59 l0_2 x5_2).f1) t244 _ A33.out).mono ?_); rintro e w' ⟨rfl, ⟨nd, rfl⟩⟩; refine ⟨_, rfl, ?_⟩))
                                go_meet
                                case rel => exact ⟨_, ((((((x3_2 ++ (⟨#[33]⟩ : ByteArray)) ++ t242) ++ (⟨#[32, 100, 111, 110, 101, 32]⟩ : ByteArray)) ++ t243) ++ (⟨#[32, 97, 116, 32]⟩ : ByteArray)) ++ t244), (by first | rfl | (simp; done) | (simp [*]; done)), H', ⟨by have := HK1.out; have := HK2.out; first | omega | exact Nat.le_refl _⟩, ⟨by (with_reducible repeat (first | refine blk_drewN ?_ _ | refine blk_drew ?_ | refine blk_alloc ?_ _)); exact BK235.out⟩, ⟨by (with_reducible repeat (first | refine blk_drewN ?_ _ | refine blk_drew ?_ | refine blk_alloc ?_ _)); exact BK241.out⟩, ⟨by repeat (first | (with_reducible first | exact HB.out | apply below_alloc | apply pw_below_drewN | apply below_drew1 | refine below_set ?_ GE235.out | refine below_set ?_ GE241.out) | exact HB.out)⟩⟩
                              · rw [if_neg c34] at H
                                exact absurd H (by simp)
                            · rw [if_neg c32] at H
                              exact absurd H (by simp)
                          · rw [if_neg c31] at H
                            have c31b0 : (((rd_T59 l0_2 x5_2).f2) == (-1)) = false := beq_eq_false_iff_ne.mpr c31
                            have c31b1 : (((rd_T59 l0_2 x5_2).f2) != (-1)) = true := bne_iff_ne.mpr c31
                            (first | rw [c31b0] | (simp only [i64_w, i32_w]; rw [c31b0]) | skip)
                            by_cases c37 : ((((x3_2 ++ (⟨#[33]⟩ : ByteArray)) ++ t242) ++ (⟨#[32, 100, 111, 110, 101, 32]⟩ : ByteArray)) ++ t243).size + 4 ≤ 9223372036854775807
                            · rw [if_pos c37] at H
                              have c37b0 := eq_true c37
                              have c37b1 : decide (((((x3_2 ++ (⟨#[33]⟩ : ByteArray)) ++ t242) ++ (⟨#[32, 100, 111, 110, 101, 32]⟩ : ByteArray)) ++ t243).size + 4 ≤ 9223372036854775807) = true := decide_eq_true c37
                              try have c37b2 : (9223372036854775807 < ((((x3_2 ++ (⟨#[33]⟩ : ByteArray)) ++ t242) ++ (⟨#[32, 100, 111, 110, 101, 32]⟩ : ByteArray)) ++ t243).size + 4) = False := eq_false (Nat.not_lt.2 c37)
                              try have c37b3 := c37b2
                              try simp only [ByteArray.size_append, szt_0, szt_1, szt_2, szt_3, szt_4, szt_5, szt_6, szt_7, szt_8, szt_9, szt_10, szt_11, szt_12, szt_13] at c37b3
                              replace H := Option.bind_eq_some_iff.mp H
                              obtain ⟨t245, A380, H⟩ := H
                              replace H : (if (((((x3_2 ++ (⟨#[33]⟩ : ByteArray)) ++ t242) ++ (⟨#[32, 100, 111, 110, 101, 32]⟩ : ByteArray)) ++ t243) ++ (⟨#[32, 116, 111, 32]⟩ : ByteArray)).size + t245.size ≤ 9223372036854775807 then (mimesisref23_Text.j2 k2 ((((((x3_2 ++ (⟨#[33]⟩ : ByteArray)) ++ t242) ++ (⟨#[32, 100, 111, 110, 101, 32]⟩ : ByteArray)) ++ t243) ++ (⟨#[32, 116, 111, 32]⟩ : ByteArray)) ++ t245) x5_2 l0_0 l0_1 l0_2 a0_3 ((rd_T59 l0_2 x5_2).f0) ((rd_T59 l0_2 x5_2).f1) ((rd_T59 l0_2 x5_2).f2) ((rd_T59 l0_2 x5_2).f3) ((rd_T59 l0_2 x5_2).f4)) else (none)) = some r := H
                              have A38 := Aside0.mk A380
                              clear A380
                              by_cases c39 : (((((x3_2 ++ (⟨#[33]⟩ : ByteArray)) ++ t242) ++ (⟨#[32, 100, 111, 110, 101, 32]⟩ : ByteArray)) ++ t243) ++ (⟨#[32, 116, 111, 32]⟩ : ByteArray)).size + t245.size ≤ 9223372036854775807
                              · rw [if_pos c39] at H
                                have c39b0 := eq_true c39
                                have c39b1 : decide ((((((x3_2 ++ (⟨#[33]⟩ : ByteArray)) ++ t242) ++ (⟨#[32, 100, 111, 110, 101, 32]⟩ : ByteArray)) ++ t243) ++ (⟨#[32, 116, 111, 32]⟩ : ByteArray)).size + t245.size ≤ 9223372036854775807) = true := decide_eq_true c39
                                try have c39b2 : (9223372036854775807 < (((((x3_2 ++ (⟨#[33]⟩ : ByteArray)) ++ t242) ++ (⟨#[32, 100, 111, 110, 101, 32]⟩ : ByteArray)) ++ t243) ++ (⟨#[32, 116, 111, 32]⟩ : ByteArray)).size + t245.size) = False := eq_false (Nat.not_lt.2 c39)
                                try have c39b3 := c39b2
                                try simp only [ByteArray.size_append, szt_0, szt_1, szt_2, szt_3, szt_4, szt_5, szt_6, szt_7, szt_8, szt_9, szt_10, szt_11, szt_12, szt_13] at c39b3
                                have H' := Aside0.mk H
                                clear H
                                have hnb40 := NB241_235.out
                                have hnc40 := NB235_241.out
                                have hcz41_0 : w29.cell? ⟨gb241, 0, none⟩ = some (.int .i64 ((rd_T59 l0_2 x5_2).f0)) := (blk_cell BK241.out 0).trans rfl
                                have hcz41_1 : w29.cell? ⟨gb241, 1, none⟩ = some (.int .u32 ((rd_T59 l0_2 x5_2).f1)) := (blk_cell BK241.out 1).trans rfl
                                have hcz41_2 : w29.cell? ⟨gb241, 2, none⟩ = some (.int .i64 ((rd_T59 l0_2 x5_2).f2)) := (blk_cell BK241.out 2).trans rfl
                                have hcz41_3 : w29.cell? ⟨gb241, 3, none⟩ = some (.int .i64 ((rd_T59 l0_2 x5_2).f3)) := (blk_cell BK241.out 3).trans rfl
                                have hcz41_4 : w29.cell? ⟨gb241, 4, none⟩ = some (.slice A240_4 ((rd_T59 l0_2 x5_2).f4).length c240_4) := (blk_cell BK241.out 4).trans rfl
                                have hfz41_0 := blk_frozen BK241.out 0
                                have hfz41_1 := blk_frozen BK241.out 1
                                have hfz41_2 := blk_frozen BK241.out 2
                                have hfz41_3 := blk_frozen BK241.out 3
                                have hfz41_4 := blk_frozen BK241.out 4
                                go_wp2_with (first | ((with_reducible refine gate_callee (f := 30) rfl ?_); refine goesL_ (some 63) rfl rfl Tryd.func30 (by kernel_rfl) rfl #[.int .i64 ((rd_T59 l0_2 x5_2).f2)] rfl (by (try simp only [List.map_toArray, List.map_cons, List.map_nil]); first | done | rfl | (simp only [List.length_drop, List.length_take]; rfl)) ?_; (with_reducible refine (mimesisref23_num.calls k2 ((rd_T59 l0_2 x5_2).f2) t245 _ A38.out).mono ?_); rintro e w' ⟨rfl, ⟨nd, rfl⟩⟩; refine ⟨_, rfl, ?_⟩))
                                go_meet
                                case rel => exact ⟨_, ((((((x3_2 ++ (⟨#[33]⟩ : ByteArray)) ++ t242) ++ (⟨#[32, 100, 111, 110, 101, 32]⟩ : ByteArray)) ++ t243) ++ (⟨#[32, 116, 111, 32]⟩ : ByteArray)) ++ t245), (by first | rfl | (simp; done) | (simp [*]; done)), H', ⟨by have := HK1.out; have := HK2.out; first | omega | exact Nat.le_refl _⟩, ⟨by (with_reducible repeat (first | refine blk_drewN ?_ _ | refine blk_drew ?_ | refine blk_alloc ?_ _)); exact BK235.out⟩, ⟨by (with_reducible repeat (first | refine blk_drewN ?_ _ | refine blk_drew ?_ | refine blk_alloc ?_ _)); exact BK241.out⟩, ⟨by repeat (first | (with_reducible first | exact HB.out | apply below_alloc | apply pw_below_drewN | apply below_drew1 | refine below_set ?_ GE235.out | refine below_set ?_ GE241.out) | exact HB.out)⟩⟩
                              · rw [if_neg c39] at H
                                exact absurd H (by simp)
                            · rw [if_neg c37] at H
                              exact absurd H (by simp)
                        case rest =>
                          clear HC23
                          try clear c1
                          try clear c2
                          try clear p2
                          try clear q2
                          try clear hx2
                          try clear c3
                          try clear c3b0
                          try clear c4
                          try clear c5
                          try clear c5b0
                          try clear c5b1
                          try clear c5b2
                          try clear c6
                          try clear c6b0
                          try clear c6b1
                          try clear c6b2
                          try clear p6
                          try clear c7
                          try clear c7b0
                          try clear c9
                          try clear c9b0
                          try clear c9b1
                          try clear c9b2
                          try clear c10
                          try clear c10b0
                          try clear c10b1
                          try clear c10b2
                          try clear c13
                          try clear c15
                          try clear c15b0
                          try clear c16
                          try clear c16b0
                          try clear c17
                          try clear c17b0
                          try clear c17b1
                          try clear c17b2
                          try clear c19
                          try clear c19b0
                          try clear c19b1
                          try clear c19b2
                          try clear c20
                          try clear c20b0
                          try clear c20b1
                          try clear c20b2
                          try clear c22
                          try clear c22b0
                          try clear c22b1
                          try clear c22b2
                          try clear p23
                          try clear q23
                          try clear hx23
                          try clear c24
                          try clear p24
                          try clear q24
                          try clear hx24
                          try clear c26
                          try clear c30
                          try clear c31
                          try clear c31b0
                          try clear c31b1
                          try clear c32
                          try clear c32b0
                          try clear c32b1
                          try clear c32b2
                          try clear c34
                          try clear c34b0
                          try clear c34b1
                          try clear c34b2
                          try clear c35
                          try clear c37
                          try clear c37b0
                          try clear c37b1
                          try clear c37b2
                          try clear c39
                          try clear c39b0
                          try clear c39b1
                          try clear c39b2
                          try clear c40
                          try clear hcz11_0
                          try clear hcz11_1
                          try clear hcz11_2
                          try clear hcz11_3
                          try clear hcz14_0
                          try clear hcz14_1
                          try clear hcz14_2
                          try clear hcz14_3
                          try clear hcz24_0
                          try clear hcz24_1
                          try clear hcz24_2
                          try clear hcz24_3
                          try clear hcz27_0
                          try clear hcz27_1
                          try clear hcz27_2
                          try clear hcz27_3
                          try clear hcz27_4
                          try clear hcz30_0
                          try clear hcz30_1
                          try clear hcz30_2
                          try clear hcz30_3
                          try clear hcz30_4
                          try clear hcz36_0
                          try clear hcz36_1
                          try clear hcz36_2
                          try clear hcz36_3
                          try clear hcz36_4
                          try clear hcz41_0
                          try clear hcz41_1
                          try clear hcz41_2
                          try clear hcz41_3
                          try clear hcz41_4
                          try clear hfz11_0
                          try clear hfz11_1
                          try clear hfz11_2
                          try clear hfz11_3
                          try clear hfz14_0
                          try clear hfz14_1
                          try clear hfz14_2
                          try clear hfz14_3
                          try clear hfz24_0
                          try clear hfz24_1
                          try clear hfz24_2
                          try clear hfz24_3
                          try clear hfz27_0
                          try clear hfz27_1
                          try clear hfz27_2
                          try clear hfz27_3
                          try clear hfz27_4
                          try clear hfz30_0
                          try clear hfz30_1
                          try clear hfz30_2
                          try clear hfz30_3
                          try clear hfz30_4
                          try clear hfz36_0
                          try clear hfz36_1
                          try clear hfz36_2
                          try clear hfz36_3
                          try clear hfz36_4
                          try clear hfz41_0
                          try clear hfz41_1
                          try clear hfz41_2
                          try clear hfz41_3
                          try clear hfz41_4
                          try clear hx237_0
                          try clear hx237_1
                          try clear hx237_2
                          try clear hx237_3
                          try clear hx237_4
                          try clear hx237_5
                          try clear hx240_0
                          try clear hx240_1
                          try clear hx240_2
                          try clear hx240_3
                          try clear hx240_4
                          try clear p2
                          try clear p237
                          try clear p240
                          try clear p6
                          try clear q2
                          try clear q237
                          try clear q240
                          obtain ⟨kq, x3_22, rfl, HA, HJ22, BK235, BK241, HB⟩ := hcut
                          cases kq with
                          | zero => exact absurd HA.out (by simp [mimesisref23_Text.j2])
                          | succ kj22 =>
                            have H := HA.out
                            clear HA
                            simp only [mimesisref23_Text.j2] at H
                            by_cases c42 : x3_22.size + 1 ≤ 9223372036854775807
                            · rw [if_pos c42] at H
                              have c42b0 := eq_true c42
                              have c42b1 : decide (x3_22.size + 1 ≤ 9223372036854775807) = true := decide_eq_true c42
                              try have c42b2 : (9223372036854775807 < x3_22.size + 1) = False := eq_false (Nat.not_lt.2 c42)
                              try have c42b3 := c42b2
                              try simp only [ByteArray.size_append, szt_0, szt_1, szt_2, szt_3, szt_4, szt_5, szt_6, szt_7, szt_8, szt_9, szt_10, szt_11, szt_12, szt_13] at c42b3
                              obtain ⟨y246, hy246⟩ : ∃ y_ : List ByteArray, y_ = (([(⟨#[]⟩ : ByteArray), (⟨#[115, 108, 111, 119]⟩ : ByteArray), (⟨#[104, 105, 116]⟩ : ByteArray), (⟨#[115, 105, 100, 101]⟩ : ByteArray), (⟨#[101, 110, 100]⟩ : ByteArray)] : List ByteArray)) := ⟨_, rfl⟩
                              replace H : (if 0 ≤ ((rd_T59 l0_2 x5_2).f3) then (if ((rd_T59 l0_2 x5_2).f3) < (y246.length : Int) then (if (x3_22 ++ (⟨#[32]⟩ : ByteArray)).size + (rdOf ByteArray.empty y246 ((rd_T59 l0_2 x5_2).f3)).size ≤ 9223372036854775807 then (mimesisref23_Text.l2 kj22 ((x3_22 ++ (⟨#[32]⟩ : ByteArray)) ++ (rdOf ByteArray.empty y246 ((rd_T59 l0_2 x5_2).f3))) x5_2 0 l0_0 l0_1 l0_2 a0_3 ((rd_T59 l0_2 x5_2).f0) ((rd_T59 l0_2 x5_2).f1) ((rd_T59 l0_2 x5_2).f2) ((rd_T59 l0_2 x5_2).f3) ((rd_T59 l0_2 x5_2).f4)) else (none)) else (none)) else (none)) = some r := by first | (rw [hy246]; with_reducible exact H) | (have H2_ := (Option.bind_some _ _).symm.trans H; rw [hy246]; with_reducible exact H2_) | (have H2_ := (Option.bind_some _ _).symm.trans H; with_reducible exact H2_) | with_reducible exact H | (rw [hy246]; exact H) | exact H
                              have Ny246 := Aside0.mk hy246
                              clear hy246
                              by_cases c43 : 0 ≤ ((rd_T59 l0_2 x5_2).f3)
                              · rw [if_pos c43] at H
                                have c43b0 : decide (0 ≤ ((rd_T59 l0_2 x5_2).f3)) = true := decide_eq_true c43
                                clear c43
                                by_cases c44 : ((rd_T59 l0_2 x5_2).f3) < (y246.length : Int)
                                · rw [if_pos c44] at H
                                  have c44b0 : decide (((rd_T59 l0_2 x5_2).f3) < (y246.length : Int)) = true := decide_eq_true c44
                                  clear c44
                                  by_cases c45 : (x3_22 ++ (⟨#[32]⟩ : ByteArray)).size + (rdOf ByteArray.empty y246 ((rd_T59 l0_2 x5_2).f3)).size ≤ 9223372036854775807
                                  · rw [if_pos c45] at H
                                    have c45b0 := eq_true c45
                                    have c45b1 : decide ((x3_22 ++ (⟨#[32]⟩ : ByteArray)).size + (rdOf ByteArray.empty y246 ((rd_T59 l0_2 x5_2).f3)).size ≤ 9223372036854775807) = true := decide_eq_true c45
                                    try have c45b2 : (9223372036854775807 < (x3_22 ++ (⟨#[32]⟩ : ByteArray)).size + (rdOf ByteArray.empty y246 ((rd_T59 l0_2 x5_2).f3)).size) = False := eq_false (Nat.not_lt.2 c45)
                                    try have c45b3 := c45b2
                                    try simp only [ByteArray.size_append, szt_0, szt_1, szt_2, szt_3, szt_4, szt_5, szt_6, szt_7, szt_8, szt_9, szt_10, szt_11, szt_12, szt_13] at c45b3
                                    have H' := Aside0.mk H
                                    clear H
                                    go_wp2_with (first | ((with_reducible refine gate_dst (N := 67) rfl ?_); refine Kd.R_lit Kd.string _ 9 ?hg (N := 67) ?hd (xs := ([(⟨#[]⟩ : ByteArray), (⟨#[115, 108, 111, 119]⟩ : ByteArray), (⟨#[104, 105, 116]⟩ : ByteArray), (⟨#[115, 105, 100, 101]⟩ : ByteArray), (⟨#[101, 110, 100]⟩ : ByteArray)] : List ByteArray)) (inner := [.string (⟨#[]⟩ : ByteArray), .string (⟨#[115, 108, 111, 119]⟩ : ByteArray), .string (⟨#[104, 105, 116]⟩ : ByteArray), .string (⟨#[115, 105, 100, 101]⟩ : ByteArray), .string (⟨#[101, 110, 100]⟩ : ByteArray)]) (ok := fun _ => True) (okp := fun _ => True) ?hr ?hp (fun _ hk => hk) trivial (Below.refl _ _) (Nat.le_refl _) (by simp) ?_; (case hd => rfl); (case hg => rfl); (case hr => first | (go_simp; done) | (go_simp; rfl)); (case hp => exact (Reps.one (show Kd.M Kd.string _ _ _ (⟨#[]⟩ : ByteArray) [.string (⟨#[]⟩ : ByteArray)] from rfl) (Reps.one (show Kd.M Kd.string _ _ _ (⟨#[115, 108, 111, 119]⟩ : ByteArray) [.string (⟨#[115, 108, 111, 119]⟩ : ByteArray)] from rfl) (Reps.one (show Kd.M Kd.string _ _ _ (⟨#[104, 105, 116]⟩ : ByteArray) [.string (⟨#[104, 105, 116]⟩ : ByteArray)] from rfl) (Reps.one (show Kd.M Kd.string _ _ _ (⟨#[115, 105, 100, 101]⟩ : ByteArray) [.string (⟨#[115, 105, 100, 101]⟩ : ByteArray)] from rfl) (Reps.one (show Kd.M Kd.string _ _ _ (⟨#[101, 110, 100]⟩ : ByteArray) [.string (⟨#[101, 110, 100]⟩ : ByteArray)] from rfl) (Reps.none _ _))))))); intro v247 w46 ho47 hb hg_ hnew_; clear hg_ hnew_; (first | rw [← Ny246.out] at ho47 | (simp only [Int.reduceToNat] at ho47; rw [← Ny246.out] at ho47)); have n0_ := Aside0.mk (Kd.R_lower ho47 (below_size (by repeat (first | (with_reducible first | exact HB.out | apply below_alloc | apply pw_below_drewN | apply below_drew1 | refine below_set ?_ GE235.out | refine below_set ?_ GE241.out) | exact HB.out)))); have n1_ := Aside0.mk (blk_below (g := gb235) (o := .cells #[.slice A0_0 l0_0.length c0_0, .slice A0_1 l0_1.length c0_1, .slice (some ad240) l0_2.length c0_2, .int .i64 a0_3] 26 (0, 0)) (by (with_reducible repeat (first | refine blk_drewN ?_ _ | refine blk_drew ?_ | refine blk_alloc ?_ _)); exact BK235.out) hb); have n2_ := Aside0.mk (blk_below (g := gb241) (o := .cells #[.int .i64 ((rd_T59 l0_2 x5_2).f0), .int .u32 ((rd_T59 l0_2 x5_2).f1), .int .i64 ((rd_T59 l0_2 x5_2).f2), .int .i64 ((rd_T59 l0_2 x5_2).f3), .slice A240_4 ((rd_T59 l0_2 x5_2).f4).length c240_4] 59 (0, 0)) (by (with_reducible repeat (first | refine blk_drewN ?_ _ | refine blk_drew ?_ | refine blk_alloc ?_ _)); exact BK241.out) hb); have n3_ := Aside0.mk (below_step (by repeat (first | (with_reducible first | exact HB.out | apply below_alloc | apply pw_below_drewN | apply below_drew1 | refine below_set ?_ GE235.out | refine below_set ?_ GE241.out) | exact HB.out)) hb); clear BK235; clear BK241; clear HB; have HO248 := n0_; have BK235 := n1_; have BK241 := n2_; have HB := n3_; clear n0_ n1_ n2_ n3_; clear hb ho47; have hnb48 := NB241_235.out; have hnc48 := NB235_241.out; have hcz49_0 : w46.cell? ⟨gb241, 0, none⟩ = some (.int .i64 ((rd_T59 l0_2 x5_2).f0)) := (blk_cell BK241.out 0).trans rfl; have hcz49_1 : w46.cell? ⟨gb241, 1, none⟩ = some (.int .u32 ((rd_T59 l0_2 x5_2).f1)) := (blk_cell BK241.out 1).trans rfl; have hcz49_2 : w46.cell? ⟨gb241, 2, none⟩ = some (.int .i64 ((rd_T59 l0_2 x5_2).f2)) := (blk_cell BK241.out 2).trans rfl; have hcz49_3 : w46.cell? ⟨gb241, 3, none⟩ = some (.int .i64 ((rd_T59 l0_2 x5_2).f3)) := (blk_cell BK241.out 3).trans rfl; have hcz49_4 : w46.cell? ⟨gb241, 4, none⟩ = some (.slice A240_4 ((rd_T59 l0_2 x5_2).f4).length c240_4) := (blk_cell BK241.out 4).trans rfl; have hfz49_0 := blk_frozen BK241.out 0; have hfz49_1 := blk_frozen BK241.out 1; have hfz49_2 := blk_frozen BK241.out 2; have hfz49_3 := blk_frozen BK241.out 3; have hfz49_4 := blk_frozen BK241.out 4; obtain ⟨Ao50, co50, eo50⟩ := Kd.R_slice HO248.out; subst eo50; have p249 : 0 ≤ (((rd_T59 l0_2 x5_2).f3) : Int) := of_decide_eq_true (by first | (with_reducible assumption) | assumption); have q249 : ((rd_T59 l0_2 x5_2).f3) < (y246.length : Int) := of_decide_eq_true (by first | (with_reducible assumption) | assumption); obtain ⟨ad249, e249, hx249_0⟩ := Kd.at_string (Kd.R_reads' HO248.out).2.2 ((rd_T59 l0_2 x5_2).f3) p249 q249; cases e249; replace p249 := eq_true p249; replace q249 := eq_true q249))
                                    go_loopg [3, 7] kj22 (fun kq v3 v7 w' => ∃ (x3_4 : ByteArray) (x7_4 : Int), v3 = .string x3_4 ∧ v7 = .int .i64 x7_4 ∧ Aside0 (mimesisref23_Text.l2 kq x3_4 x5_2 x7_4 l0_0 l0_1 l0_2 a0_3 ((rd_T59 l0_2 x5_2).f0) ((rd_T59 l0_2 x5_2).f1) ((rd_T59 l0_2 x5_2).f2) ((rd_T59 l0_2 x5_2).f3) ((rd_T59 l0_2 x5_2).f4) = some r) ∧ Aside0 (kq ≤ kj22) ∧ Aside0 (w'.heap[gb235]? = some (.cells #[(.slice A0_0 l0_0.length c0_0), (.slice A0_1 l0_1.length c0_1), (.slice (some ad240) l0_2.length c0_2), .int .i64 a0_3] 26 (0, 0))) ∧ Aside0 (w'.heap[gb241]? = some (.cells #[.int .i64 ((rd_T59 l0_2 x5_2).f0), .int .u32 ((rd_T59 l0_2 x5_2).f1), .int .i64 ((rd_T59 l0_2 x5_2).f2), .int .i64 ((rd_T59 l0_2 x5_2).f3), (.slice A240_4 ((rd_T59 l0_2 x5_2).f4).length c240_4)] 59 (0, 0))) ∧ Aside0 (Below w.heap.size w w'))
                                    case atStart => exact ⟨((x3_22 ++ (⟨#[32]⟩ : ByteArray)) ++ (rdOf ByteArray.empty y246 ((rd_T59 l0_2 x5_2).f3))), (0), (by first | rfl | (simp; done) | (simp [*]; done)), (by first | rfl | (simp; done) | (simp [*]; done)), H', ⟨Nat.le_refl _⟩, ⟨by (with_reducible repeat (first | refine blk_drewN ?_ _ | refine blk_drew ?_ | refine blk_alloc ?_ _)); exact BK235.out⟩, ⟨by (with_reducible repeat (first | refine blk_drewN ?_ _ | refine blk_drew ?_ | refine blk_alloc ?_ _)); exact BK241.out⟩, ⟨by repeat (first | (with_reducible first | exact HB.out | apply below_alloc | apply pw_below_drewN | apply below_drew1 | refine below_set ?_ GE235.out | refine below_set ?_ GE241.out) | exact HB.out)⟩⟩
                                    case round =>
                                      clear H'
                                      try clear c1
                                      try clear c2
                                      try clear p2
                                      try clear q2
                                      try clear hx2
                                      try clear c3
                                      try clear c3b0
                                      try clear c4
                                      try clear c5
                                      try clear c5b0
                                      try clear c5b1
                                      try clear c5b2
                                      try clear c6
                                      try clear c6b0
                                      try clear c6b1
                                      try clear c6b2
                                      try clear p6
                                      try clear c7
                                      try clear c7b0
                                      try clear c9
                                      try clear c9b0
                                      try clear c9b1
                                      try clear c9b2
                                      try clear c10
                                      try clear c10b0
                                      try clear c10b1
                                      try clear c10b2
                                      try clear c13
                                      try clear c15
                                      try clear c15b0
                                      try clear c16
                                      try clear c16b0
                                      try clear c17
                                      try clear c17b0
                                      try clear c17b1
                                      try clear c17b2
                                      try clear c19
                                      try clear c19b0
                                      try clear c19b1
                                      try clear c19b2
                                      try clear c20
                                      try clear c20b0
                                      try clear c20b1
                                      try clear c20b2
                                      try clear c22
                                      try clear c22b0
                                      try clear c22b1
                                      try clear c22b2
                                      try clear p23
                                      try clear q23
                                      try clear hx23
                                      try clear c24
                                      try clear p24
                                      try clear q24
                                      try clear hx24
                                      try clear c26
                                      try clear c30
                                      try clear c31
                                      try clear c31b0
                                      try clear c31b1
                                      try clear c32
                                      try clear c32b0
                                      try clear c32b1
                                      try clear c32b2
                                      try clear c34
                                      try clear c34b0
                                      try clear c34b1
                                      try clear c34b2
                                      try clear c35
                                      try clear c37
                                      try clear c37b0
                                      try clear c37b1
                                      try clear c37b2
                                      try clear c39
                                      try clear c39b0
                                      try clear c39b1
                                      try clear c39b2
                                      try clear c40
                                      try clear c42
                                      try clear c42b0
                                      try clear c42b1
                                      try clear c42b2
                                      try clear c43
                                      try clear c43b0
                                      try clear c44
                                      try clear c44b0
                                      try clear c45
                                      try clear c45b0
                                      try clear c45b1
                                      try clear c45b2
                                      try clear c48
                                      try clear hcz11_0
                                      try clear hcz11_1
                                      try clear hcz11_2
                                      try clear hcz11_3
                                      try clear hcz14_0
                                      try clear hcz14_1
                                      try clear hcz14_2
                                      try clear hcz14_3
                                      try clear hcz24_0
                                      try clear hcz24_1
                                      try clear hcz24_2
                                      try clear hcz24_3
                                      try clear hcz27_0
                                      try clear hcz27_1
                                      try clear hcz27_2
                                      try clear hcz27_3
                                      try clear hcz27_4
                                      try clear hcz30_0
                                      try clear hcz30_1
                                      try clear hcz30_2
                                      try clear hcz30_3
                                      try clear hcz30_4
                                      try clear hcz36_0
                                      try clear hcz36_1
                                      try clear hcz36_2
                                      try clear hcz36_3
                                      try clear hcz36_4
                                      try clear hcz41_0
                                      try clear hcz41_1
                                      try clear hcz41_2
                                      try clear hcz41_3
                                      try clear hcz41_4
                                      try clear hcz49_0
                                      try clear hcz49_1
                                      try clear hcz49_2
                                      try clear hcz49_3
                                      try clear hcz49_4
                                      try clear hfz11_0
                                      try clear hfz11_1
                                      try clear hfz11_2
                                      try clear hfz11_3
                                      try clear hfz14_0
                                      try clear hfz14_1
                                      try clear hfz14_2
                                      try clear hfz14_3
                                      try clear hfz24_0
                                      try clear hfz24_1
                                      try clear hfz24_2
                                      try clear hfz24_3
                                      try clear hfz27_0
                                      try clear hfz27_1
                                      try clear hfz27_2
                                      try clear hfz27_3
                                      try clear hfz27_4
                                      try clear hfz30_0
                                      try clear hfz30_1
                                      try clear hfz30_2
                                      try clear hfz30_3
                                      try clear hfz30_4
                                      try clear hfz36_0
                                      try clear hfz36_1
                                      try clear hfz36_2
                                      try clear hfz36_3
                                      try clear hfz36_4
                                      try clear hfz41_0
                                      try clear hfz41_1
                                      try clear hfz41_2
                                      try clear hfz41_3
                                      try clear hfz41_4
                                      try clear hfz49_0
                                      try clear hfz49_1
                                      try clear hfz49_2
                                      try clear hfz49_3
                                      try clear hfz49_4
                                      try clear hx237_0
                                      try clear hx237_1
                                      try clear hx237_2
                                      try clear hx237_3
                                      try clear hx237_4
                                      try clear hx237_5
                                      try clear hx240_0
                                      try clear hx240_1
                                      try clear hx240_2
                                      try clear hx240_3
                                      try clear hx240_4
                                      try clear hx249_0
                                      try clear p2
                                      try clear p23
                                      try clear p237
                                      try clear p24
                                      try clear p240
                                      try clear p249
                                      try clear p6
                                      try clear q2
                                      try clear q23
                                      try clear q237
                                      try clear q24
                                      try clear q240
                                      try clear q249
                                      obtain ⟨x3_4, x7_4, rfl, rfl, HA, HK4, BK235, BK241, HB⟩ := hrel
                                      cases gk with
                                      | zero => exact absurd HA.out (by simp [mimesisref23_Text.l2])
                                      | succ k4 =>
                                        have H := HA.out
                                        clear HA
                                        simp only [mimesisref23_Text.l2] at H
                                        by_cases c51 : x7_4 < (((rd_T59 l0_2 x5_2).f4).length : Int)
                                        · rw [if_pos c51] at H
                                          have c51b0 : decide (x7_4 < (((rd_T59 l0_2 x5_2).f4).length : Int)) = true := decide_eq_true c51
                                          clear c51
                                          by_cases c52 : x3_4.size + 2 ≤ 9223372036854775807
                                          · rw [if_pos c52] at H
                                            have c52b0 := eq_true c52
                                            have c52b1 : decide (x3_4.size + 2 ≤ 9223372036854775807) = true := decide_eq_true c52
                                            try have c52b2 : (9223372036854775807 < x3_4.size + 2) = False := eq_false (Nat.not_lt.2 c52)
                                            try have c52b3 := c52b2
                                            try simp only [ByteArray.size_append, szt_0, szt_1, szt_2, szt_3, szt_4, szt_5, szt_6, szt_7, szt_8, szt_9, szt_10, szt_11, szt_12, szt_13] at c52b3
                                            by_cases c53 : 0 ≤ x7_4
                                            · rw [if_pos c53] at H
                                              have c53b0 : decide (0 ≤ x7_4) = true := decide_eq_true c53
                                              clear c53
                                              replace H := Option.bind_eq_some_iff.mp H
                                              obtain ⟨t251, A540, H⟩ := H
                                              replace H : (if (x3_4 ++ (⟨#[32, 120]⟩ : ByteArray)).size + t251.size ≤ 9223372036854775807 then (if ((x3_4 ++ (⟨#[32, 120]⟩ : ByteArray)) ++ t251).size + 1 ≤ 9223372036854775807 then ((mimesisref23_num.f k4 ((rd_T62 ((rd_T59 l0_2 x5_2).f4) x7_4).f1)).bind fun t253 => (if (((x3_4 ++ (⟨#[32, 120]⟩ : ByteArray)) ++ t251) ++ (⟨#[61]⟩ : ByteArray)).size + t253.size ≤ 9223372036854775807 then (mimesisref23_Text.l2 k4 ((((x3_4 ++ (⟨#[32, 120]⟩ : ByteArray)) ++ t251) ++ (⟨#[61]⟩ : ByteArray)) ++ t253) x5_2 (wrap64 (x7_4 + 1)) l0_0 l0_1 l0_2 a0_3 ((rd_T59 l0_2 x5_2).f0) ((rd_T59 l0_2 x5_2).f1) ((rd_T59 l0_2 x5_2).f2) ((rd_T59 l0_2 x5_2).f3) ((rd_T59 l0_2 x5_2).f4)) else (none))) else (none)) else (none)) = some r := H
                                              have A54 := Aside0.mk A540
                                              clear A540
                                              by_cases c55 : (x3_4 ++ (⟨#[32, 120]⟩ : ByteArray)).size + t251.size ≤ 9223372036854775807
                                              · rw [if_pos c55] at H
                                                have c55b0 := eq_true c55
                                                have c55b1 : decide ((x3_4 ++ (⟨#[32, 120]⟩ : ByteArray)).size + t251.size ≤ 9223372036854775807) = true := decide_eq_true c55
                                                try have c55b2 : (9223372036854775807 < (x3_4 ++ (⟨#[32, 120]⟩ : ByteArray)).size + t251.size) = False := eq_false (Nat.not_lt.2 c55)
                                                try have c55b3 := c55b2
                                                try simp only [ByteArray.size_append, szt_0, szt_1, szt_2, szt_3, szt_4, szt_5, szt_6, szt_7, szt_8, szt_9, szt_10, szt_11, szt_12, szt_13] at c55b3
                                                by_cases c56 : ((x3_4 ++ (⟨#[32, 120]⟩ : ByteArray)) ++ t251).size + 1 ≤ 9223372036854775807
                                                · rw [if_pos c56] at H
                                                  have c56b0 := eq_true c56
                                                  have c56b1 : decide (((x3_4 ++ (⟨#[32, 120]⟩ : ByteArray)) ++ t251).size + 1 ≤ 9223372036854775807) = true := decide_eq_true c56
                                                  try have c56b2 : (9223372036854775807 < ((x3_4 ++ (⟨#[32, 120]⟩ : ByteArray)) ++ t251).size + 1) = False := eq_false (Nat.not_lt.2 c56)
                                                  try have c56b3 := c56b2
                                                  try simp only [ByteArray.size_append, szt_0, szt_1, szt_2, szt_3, szt_4, szt_5, szt_6, szt_7, szt_8, szt_9, szt_10, szt_11, szt_12, szt_13] at c56b3
                                                  replace H := Option.bind_eq_some_iff.mp H
                                                  obtain ⟨t253, A570, H⟩ := H
                                                  replace H : (if (((x3_4 ++ (⟨#[32, 120]⟩ : ByteArray)) ++ t251) ++ (⟨#[61]⟩ : ByteArray)).size + t253.size ≤ 9223372036854775807 then (mimesisref23_Text.l2 k4 ((((x3_4 ++ (⟨#[32, 120]⟩ : ByteArray)) ++ t251) ++ (⟨#[61]⟩ : ByteArray)) ++ t253) x5_2 (wrap64 (x7_4 + 1)) l0_0 l0_1 l0_2 a0_3 ((rd_T59 l0_2 x5_2).f0) ((rd_T59 l0_2 x5_2).f1) ((rd_T59 l0_2 x5_2).f2) ((rd_T59 l0_2 x5_2).f3) ((rd_T59 l0_2 x5_2).f4)) else (none)) = some r := H
                                                  have A57 := Aside0.mk A570
                                                  clear A570
                                                  by_cases c58 : (((x3_4 ++ (⟨#[32, 120]⟩ : ByteArray)) ++ t251) ++ (⟨#[61]⟩ : ByteArray)).size + t253.size ≤ 9223372036854775807
                                                  · rw [if_pos c58] at H
                                                    have c58b0 := eq_true c58
                                                    have c58b1 : decide ((((x3_4 ++ (⟨#[32, 120]⟩ : ByteArray)) ++ t251) ++ (⟨#[61]⟩ : ByteArray)).size + t253.size ≤ 9223372036854775807) = true := decide_eq_true c58
                                                    try have c58b2 : (9223372036854775807 < (((x3_4 ++ (⟨#[32, 120]⟩ : ByteArray)) ++ t251) ++ (⟨#[61]⟩ : ByteArray)).size + t253.size) = False := eq_false (Nat.not_lt.2 c58)
                                                    try have c58b3 := c58b2
                                                    try simp only [ByteArray.size_append, szt_0, szt_1, szt_2, szt_3, szt_4, szt_5, szt_6, szt_7, szt_8, szt_9, szt_10, szt_11, szt_12, szt_13] at c58b3
                                                    have H' := Aside0.mk H
                                                    clear H
                                                    have hnb59 := NB241_235.out
                                                    have hnc59 := NB235_241.out
                                                    have hcz60_0 : wr.cell? ⟨gb241, 0, none⟩ = some (.int .i64 ((rd_T59 l0_2 x5_2).f0)) := (blk_cell BK241.out 0).trans rfl
                                                    have hcz60_1 : wr.cell? ⟨gb241, 1, none⟩ = some (.int .u32 ((rd_T59 l0_2 x5_2).f1)) := (blk_cell BK241.out 1).trans rfl
                                                    have hcz60_2 : wr.cell? ⟨gb241, 2, none⟩ = some (.int .i64 ((rd_T59 l0_2 x5_2).f2)) := (blk_cell BK241.out 2).trans rfl
                                                    have hcz60_3 : wr.cell? ⟨gb241, 3, none⟩ = some (.int .i64 ((rd_T59 l0_2 x5_2).f3)) := (blk_cell BK241.out 3).trans rfl
                                                    have hcz60_4 : wr.cell? ⟨gb241, 4, none⟩ = some (.slice A240_4 ((rd_T59 l0_2 x5_2).f4).length c240_4) := (blk_cell BK241.out 4).trans rfl
                                                    have hfz60_0 := blk_frozen BK241.out 0
                                                    have hfz60_1 := blk_frozen BK241.out 1
                                                    have hfz60_2 := blk_frozen BK241.out 2
                                                    have hfz60_3 := blk_frozen BK241.out 3
                                                    have hfz60_4 := blk_frozen BK241.out 4
                                                    try go_wp2
                                                    have n0_ := Aside0.mk (blk_drew BK235.out)
                                                    have n1_ := Aside0.mk (blk_drew BK241.out)
                                                    have n2_ := Aside0.mk (below_drew1 HB.out)
                                                    clear BK235
                                                    clear BK241
                                                    clear HB
                                                    have BK235 := n0_
                                                    have BK241 := n1_
                                                    have HB := n2_
                                                    clear n0_ n1_ n2_
                                                    have p250 : 0 ≤ (x7_4 : Int) := of_decide_eq_true (by first | (with_reducible assumption) | assumption)
                                                    have q250 : x7_4 < (((rd_T59 l0_2 x5_2).f4).length : Int) := of_decide_eq_true (by first | (with_reducible assumption) | assumption)
                                                    obtain ⟨ad250, e250, hx250_0, hx250_1⟩ := at_T62 HR240_4.out x7_4 p250 q250
                                                    have hw250_1 := hx250_1
                                                    have hw250_0 := hx250_0
                                                    cases e250
                                                    replace hx250_0 := (HB.out.cell (World.block_lt_of_cell? w _ hx250_0)).trans hx250_0
                                                    replace hx250_1 := (HB.out.cell (World.block_lt_of_cell? w _ hx250_1)).trans hx250_1
                                                    replace p250 := eq_true p250
                                                    replace q250 := eq_true q250
                                                    have p252 : 0 ≤ (x7_4 : Int) := of_decide_eq_true (by first | (with_reducible assumption) | assumption)
                                                    have q252 : x7_4 < (((rd_T59 l0_2 x5_2).f4).length : Int) := of_decide_eq_true (by first | (with_reducible assumption) | assumption)
                                                    obtain ⟨ad252, e252, hx252_0, hx252_1⟩ := at_T62 HR240_4.out x7_4 p252 q252
                                                    have hw252_1 := hx252_1
                                                    have hw252_0 := hx252_0
                                                    obtain rfl : ad250 = ad252 := (by injection e252)
                                                    replace hx252_0 := (HB.out.cell (World.block_lt_of_cell? w _ hx252_0)).trans hx252_0
                                                    replace hx252_1 := (HB.out.cell (World.block_lt_of_cell? w _ hx252_1)).trans hx252_1
                                                    replace p252 := eq_true p252
                                                    replace q252 := eq_true q252
                                                    refine start_ (n := 20) (S := fun w' => w'.cell? ⟨gb241, 0, none⟩ = some (.int .i64 ((rd_T59 l0_2 x5_2).f0)) ∧ w'.cell? ⟨gb241, 1, none⟩ = some (.int .u32 ((rd_T59 l0_2 x5_2).f1)) ∧ w'.cell? ⟨gb241, 2, none⟩ = some (.int .i64 ((rd_T59 l0_2 x5_2).f2)) ∧ w'.cell? ⟨gb241, 3, none⟩ = some (.int .i64 ((rd_T59 l0_2 x5_2).f3)) ∧ w'.cell? ⟨gb241, 4, none⟩ = some (.slice (some ad250) ((rd_T59 l0_2 x5_2).f4).length c240_4) ∧ w'.cell? (ad250.add ((x7_4).toNat * 2)) = some (.int .i64 ((rd_T62 ((rd_T59 l0_2 x5_2).f4) x7_4).f0)) ∧ w'.cell? ⟨(ad250.add ((x7_4).toNat * 2)).block, (ad250.add ((x7_4).toNat * 2)).off + 1, none⟩ = some (.int .i64 ((rd_T62 ((rd_T59 l0_2 x5_2).f4) x7_4).f1)) ∧ w'.cell? (ad250.add ((x7_4).toNat * 2)) = some (.int .i64 ((rd_T62 ((rd_T59 l0_2 x5_2).f4) x7_4).f0)) ∧ w'.cell? ⟨(ad250.add ((x7_4).toNat * 2)).block, (ad250.add ((x7_4).toNat * 2)).off + 1, none⟩ = some (.int .i64 ((rd_T62 ((rd_T59 l0_2 x5_2).f4) x7_4).f1))) (ds := []) #[false, false, false, false, false, false, false, false, false, false, false, false, false, false, false, false, false, false, false, false] (by kernel_rfl) rfl rfl ⟨(blk_cell BK241.out 0).trans rfl, (blk_cell BK241.out 1).trans rfl, (blk_cell BK241.out 2).trans rfl, (blk_cell BK241.out 3).trans rfl, (blk_cell BK241.out 4).trans rfl, ((HB.out.cell (World.block_lt_of_cell? w _ hw250_0)).trans hw250_0), ((HB.out.cell (World.block_lt_of_cell? w _ hw250_1)).trans hw250_1), ((HB.out.cell (World.block_lt_of_cell? w _ hw252_0)).trans hw252_0), ((HB.out.cell (World.block_lt_of_cell? w _ hw252_1)).trans hw252_1)⟩ (fun hHeld => ?_); refine with_tabW mimesisref23_Text.tab18 mimesisref23_Text.bits18 (fun HT_ HW_ => ?_)
                                                    generalize wr.drew = w61 at BK235 BK241 HB hx250_0 hx250_1 hx252_0 hx252_1 hHeld ⊢
                                                    refine pure_ (i := 0) (N := some 80) (v := ?_) (a' := ?_) #[true, false, false, false, false, false, false, false, false, false, false, false, false, false, false, false, false, false, false, false] rfl rfl (any_of HT_.out (by kernel_rfl)) (fun _ _ _ h => h) (Or.inl ⟨by rfl, ?_⟩) ?_ ?_
                                                    rotate_left
                                                    · intro w'
                                                      go_simp
                                                      with_reducible rfl
                                                    rotate_left
                                                    · simp only [Act.put, List.setIfInBounds_toArray, List.set_cons_zero, List.set_cons_succ, i64_w, i32_w]
                                                      rfl
                                                    refine pure_ (i := 1) (N := some 81) (v := ?_) (a' := ?_) #[true, true, false, false, false, false, false, false, false, false, false, false, false, false, false, false, false, false, false, false] rfl rfl (any_of HT_.out (by kernel_rfl)) (fun _ _ _ h => h) (Or.inl ⟨by rfl, ?_⟩) ?_ ?_
                                                    rotate_left
                                                    · intro w'
                                                      go_simp
                                                      with_reducible rfl
                                                    rotate_left
                                                    · simp only [Act.put, List.setIfInBounds_toArray, List.set_cons_zero, List.set_cons_succ, i64_w, i32_w]
                                                      rfl
                                                    refine pure_ (i := 2) (N := some 82) (v := ?_) (a' := ?_) #[true, true, true, false, false, false, false, false, false, false, false, false, false, false, false, false, false, false, false, false] rfl rfl (any_of HT_.out (by kernel_rfl)) (fun _ _ _ h => h) (Or.inl ⟨by rfl, ?_⟩) ?_ ?_
                                                    rotate_left
                                                    · intro w'
                                                      go_simp
                                                      with_reducible rfl
                                                    rotate_left
                                                    · simp only [Act.put, List.setIfInBounds_toArray, List.set_cons_zero, List.set_cons_succ, i64_w, i32_w]
                                                      rfl
                                                    refine pure_ (i := 4) (N := some 84) (v := ?_) (a' := ?_) #[true, true, true, false, true, false, false, false, false, false, false, false, false, false, false, false, false, false, false, false] rfl rfl (any_of HT_.out (by kernel_rfl)) (fun _ _ _ h => h) (Or.inl ⟨by rfl, ?_⟩) ?_ ?_
                                                    rotate_left
                                                    · intro w'
                                                      go_simp
                                                      with_reducible rfl
                                                    rotate_left
                                                    · simp only [Act.put, List.setIfInBounds_toArray, List.set_cons_zero, List.set_cons_succ, i64_w, i32_w]
                                                      rfl
                                                    refine pure_ (i := 11) (N := some 91) (v := ?_) (a' := ?_) #[true, true, true, false, true, false, false, false, false, false, false, true, false, false, false, false, false, false, false, false] rfl rfl (any_of HT_.out (by kernel_rfl)) (fun _ _ _ h => h) (Or.inl ⟨by rfl, ?_⟩) ?_ ?_
                                                    rotate_left
                                                    · intro w'
                                                      go_simp
                                                      with_reducible rfl
                                                    rotate_left
                                                    · simp only [Act.put, List.setIfInBounds_toArray, List.set_cons_zero, List.set_cons_succ, i64_w, i32_w]
                                                      rfl
                                                    refine pure_ (i := 13) (N := some 93) (v := ?_) (a' := ?_) #[true, true, true, false, true, false, false, false, false, false, false, true, false, true, false, false, false, false, false, false] rfl rfl (any_of HT_.out (by kernel_rfl)) (fun _ _ _ h => h) (Or.inl ⟨by rfl, ?_⟩) ?_ ?_
                                                    rotate_left
                                                    · intro w'
                                                      go_simp
                                                      with_reducible rfl
                                                    rotate_left
                                                    · simp only [Act.put, List.setIfInBounds_toArray, List.set_cons_zero, List.set_cons_succ, i64_w, i32_w]
                                                      rfl
                                                    refine take_ (i := 3) (N := some 83) (v := ?_) (a' := ?_) #[true, true, true, true, true, false, false, false, false, false, false, true, false, true, false, false, false, false, false, false] rfl rfl (take_ofW HT_.out HW_.out (by kernel_rfl)) (fun _ _ _ h => h) (Or.inl ⟨by rfl, ?_⟩) hHeld ?_ ?_
                                                    rotate_left
                                                    · rintro w' ⟨s0, s1, s2, s3, s4, s5, s6, s7, s8⟩
                                                      go_simp
                                                      with_reducible rfl
                                                    rotate_left
                                                    · simp only [Act.put, List.setIfInBounds_toArray, List.set_cons_zero, List.set_cons_succ, i64_w, i32_w]
                                                      rfl
                                                    refine pure_ (i := 5) (N := some 85) (v := ?_) (a' := ?_) #[true, true, true, true, true, true, false, false, false, false, false, true, false, true, false, false, false, false, false, false] rfl rfl (any_of HT_.out (by kernel_rfl)) (fun _ _ _ h => h) (Or.inl ⟨by rfl, ?_⟩) ?_ ?_
                                                    rotate_left
                                                    · intro w'
                                                      go_simp
                                                      with_reducible rfl
                                                    rotate_left
                                                    · simp only [Act.put, List.setIfInBounds_toArray, List.set_cons_zero, List.set_cons_succ, i64_w, i32_w]
                                                      rfl
                                                    refine pure_ (i := 6) (N := some 86) (v := ?_) (a' := ?_) #[true, true, true, true, true, true, true, false, false, false, false, true, false, true, false, false, false, false, false, false] rfl rfl (any_of HT_.out (by kernel_rfl)) (fun _ _ _ h => h) (Or.inl ⟨by rfl, ?_⟩) ?_ ?_
                                                    rotate_left
                                                    · intro w'
                                                      go_simp
                                                      with_reducible rfl
                                                    rotate_left
                                                    · simp only [Act.put, List.setIfInBounds_toArray, List.set_cons_zero, List.set_cons_succ, i64_w, i32_w]
                                                      rfl
                                                    refine take_ (i := 7) (N := some 87) (v := ?_) (a' := ?_) #[true, true, true, true, true, true, true, true, false, false, false, true, false, true, false, false, false, false, false, false] rfl rfl (take_ofW HT_.out HW_.out (by kernel_rfl)) (fun _ _ _ h => h) (Or.inl ⟨by rfl, ?_⟩) hHeld ?_ ?_
                                                    rotate_left
                                                    · rintro w' ⟨s0, s1, s2, s3, s4, s5, s6, s7, s8⟩
                                                      go_simp
                                                      with_reducible rfl
                                                    rotate_left
                                                    · simp only [Act.put, List.setIfInBounds_toArray, List.set_cons_zero, List.set_cons_succ, i64_w, i32_w]
                                                      rfl
                                                    refine take_ (i := 12) (N := some 92) (v := ?_) (a' := ?_) #[true, true, true, true, true, true, true, true, false, false, false, true, true, true, false, false, false, false, false, false] rfl rfl (take_ofW HT_.out HW_.out (by kernel_rfl)) (fun _ _ _ h => h) (Or.inl ⟨by rfl, ?_⟩) hHeld ?_ ?_
                                                    rotate_left
                                                    · rintro w' ⟨s0, s1, s2, s3, s4, s5, s6, s7, s8⟩
                                                      go_simp
                                                      with_reducible rfl
                                                    rotate_left
                                                    · simp only [Act.put, List.setIfInBounds_toArray, List.set_cons_zero, List.set_cons_succ, i64_w, i32_w]
                                                      rfl
                                                    refine pure_ (i := 14) (N := some 94) (v := ?_) (a' := ?_) #[true, true, true, true, true, true, true, true, false, false, false, true, true, true, true, false, false, false, false, false] rfl rfl (any_of HT_.out (by kernel_rfl)) (fun _ _ _ h => h) (Or.inl ⟨by rfl, ?_⟩) ?_ ?_
                                                    rotate_left
                                                    · intro w'
                                                      go_simp
                                                      with_reducible rfl
                                                    rotate_left
                                                    · simp only [Act.put, List.setIfInBounds_toArray, List.set_cons_zero, List.set_cons_succ, i64_w, i32_w]
                                                      rfl
                                                    refine pure_ (i := 15) (N := some 95) (v := ?_) (a' := ?_) #[true, true, true, true, true, true, true, true, false, false, false, true, true, true, true, true, false, false, false, false] rfl rfl (any_of HT_.out (by kernel_rfl)) (fun _ _ _ h => h) (Or.inl ⟨by rfl, ?_⟩) ?_ ?_
                                                    rotate_left
                                                    · intro w'
                                                      go_simp
                                                      with_reducible rfl
                                                    rotate_left
                                                    · simp only [Act.put, List.setIfInBounds_toArray, List.set_cons_zero, List.set_cons_succ, i64_w, i32_w]
                                                      rfl
                                                    refine take_ (i := 16) (N := some 96) (v := ?_) (a' := ?_) #[true, true, true, true, true, true, true, true, false, false, false, true, true, true, true, true, true, false, false, false] rfl rfl (take_ofW HT_.out HW_.out (by kernel_rfl)) (fun _ _ _ h => h) (Or.inl ⟨by rfl, ?_⟩) hHeld ?_ ?_
                                                    rotate_left
                                                    · rintro w' ⟨s0, s1, s2, s3, s4, s5, s6, s7, s8⟩
                                                      go_simp
                                                      with_reducible rfl
                                                    rotate_left
                                                    · simp only [Act.put, List.setIfInBounds_toArray, List.set_cons_zero, List.set_cons_succ, i64_w, i32_w]
                                                      rfl
                                                    refine one_ (i := 8) (N := some 88) #[true, true, true, true, true, true, true, true, true, false, false, true, true, true, true, true, true, false, false, false] rfl rfl (one_of HT_.out (by kernel_rfl)) (by decide) (fun K hK => ?_)
                                                    refine goes_ Tryd.func30 (by kernel_rfl) rfl #[.int .i64 ((rd_T62 ((rd_T59 l0_2 x5_2).f4) x7_4).f0)] (by rfl) rfl rfl (by (try simp only [List.map_toArray, List.map_cons, List.map_nil]); first | done | rfl | (simp only [List.length_drop, List.length_take]; rfl)) ?_
                                                    with_reducible refine (mimesisref23_num.calls k4 ((rd_T62 ((rd_T59 l0_2 x5_2).f4) x7_4).f0) t251 _ A54.out).mono ?_
                                                    rintro e w' ⟨rfl, ⟨nd, rfl⟩⟩
                                                    refine ⟨_, rfl, ?_⟩
                                                    refine hK.out _ _ ⟨(blk_cell BK241.out 0).trans rfl, (blk_cell BK241.out 1).trans rfl, (blk_cell BK241.out 2).trans rfl, (blk_cell BK241.out 3).trans rfl, (blk_cell BK241.out 4).trans rfl, ((HB.out.cell (World.block_lt_of_cell? w _ hw250_0)).trans hw250_0), ((HB.out.cell (World.block_lt_of_cell? w _ hw250_1)).trans hw250_1), ((HB.out.cell (World.block_lt_of_cell? w _ hw252_0)).trans hw252_0), ((HB.out.cell (World.block_lt_of_cell? w _ hw252_1)).trans hw252_1)⟩ (fun hHeld => ?_)
                                                    clear hK K
                                                    refine norm_ (a' := ?_) ?_ ?_
                                                    rotate_left
                                                    · show Act.put _ (some 88) _ = _
                                                      simp only [Act.put, List.setIfInBounds_toArray, List.set_cons_zero, List.set_cons_succ, i64_w, i32_w]
                                                      rfl
                                                    refine pure_ (i := 9) (N := some 89) (v := ?_) (a' := ?_) #[true, true, true, true, true, true, true, true, true, true, false, true, true, true, true, true, true, false, false, false] rfl rfl (any_of HT_.out (by kernel_rfl)) (fun _ _ _ h => h) (Or.inl ⟨by rfl, ?_⟩) ?_ ?_
                                                    rotate_left
                                                    · intro w'
                                                      go_simp
                                                      with_reducible rfl
                                                    rotate_left
                                                    · simp only [Act.put, List.setIfInBounds_toArray, List.set_cons_zero, List.set_cons_succ, i64_w, i32_w]
                                                      rfl
                                                    refine pure_ (i := 10) (N := some 90) (v := ?_) (a' := ?_) #[true, true, true, true, true, true, true, true, true, true, true, true, true, true, true, true, true, false, false, false] rfl rfl (any_of HT_.out (by kernel_rfl)) (fun _ _ _ h => h) (Or.inl ⟨by rfl, ?_⟩) ?_ ?_
                                                    rotate_left
                                                    · intro w'
                                                      go_simp
                                                      with_reducible rfl
                                                    rotate_left
                                                    · simp only [Act.put, List.setIfInBounds_toArray, List.set_cons_zero, List.set_cons_succ, i64_w, i32_w]
                                                      rfl
                                                    refine one_ (i := 17) (N := some 97) #[true, true, true, true, true, true, true, true, true, true, true, true, true, true, true, true, true, true, false, false] rfl rfl (one_of HT_.out (by kernel_rfl)) (by decide) (fun K hK => ?_)
                                                    refine goes_ Tryd.func30 (by kernel_rfl) rfl #[.int .i64 ((rd_T62 ((rd_T59 l0_2 x5_2).f4) x7_4).f1)] (by rfl) rfl rfl (by (try simp only [List.map_toArray, List.map_cons, List.map_nil]); first | done | rfl | (simp only [List.length_drop, List.length_take]; rfl)) ?_
                                                    with_reducible refine (mimesisref23_num.calls k4 ((rd_T62 ((rd_T59 l0_2 x5_2).f4) x7_4).f1) t253 _ A57.out).mono ?_
                                                    rintro e w' ⟨rfl, ⟨nd, rfl⟩⟩
                                                    refine ⟨_, rfl, ?_⟩
                                                    refine hK.out _ _ ⟨(blk_cell BK241.out 0).trans rfl, (blk_cell BK241.out 1).trans rfl, (blk_cell BK241.out 2).trans rfl, (blk_cell BK241.out 3).trans rfl, (blk_cell BK241.out 4).trans rfl, ((HB.out.cell (World.block_lt_of_cell? w _ hw250_0)).trans hw250_0), ((HB.out.cell (World.block_lt_of_cell? w _ hw250_1)).trans hw250_1), ((HB.out.cell (World.block_lt_of_cell? w _ hw252_0)).trans hw252_0), ((HB.out.cell (World.block_lt_of_cell? w _ hw252_1)).trans hw252_1)⟩ (fun hHeld => ?_)
                                                    clear hK K
                                                    refine norm_ (a' := ?_) ?_ ?_
                                                    rotate_left
                                                    · show Act.put _ (some 97) _ = _
                                                      simp only [Act.put, List.setIfInBounds_toArray, List.set_cons_zero, List.set_cons_succ, i64_w, i32_w]
                                                      rfl
                                                    refine pure_ (i := 18) (N := some 98) (v := ?_) (a' := ?_) #[true, true, true, true, true, true, true, true, true, true, true, true, true, true, true, true, true, true, true, false] rfl rfl (any_of HT_.out (by kernel_rfl)) (fun _ _ _ h => h) (Or.inl ⟨by rfl, ?_⟩) ?_ ?_
                                                    rotate_left
                                                    · intro w'
                                                      go_simp
                                                      with_reducible rfl
                                                    rotate_left
                                                    · simp only [Act.put, List.setIfInBounds_toArray, List.set_cons_zero, List.set_cons_succ, i64_w, i32_w]
                                                      rfl
                                                    refine pure_ (i := 19) (N := some 3) (v := ?_) (a' := ?_) #[true, true, true, true, true, true, true, true, true, true, true, true, true, true, true, true, true, true, true, true] rfl rfl (any_of HT_.out (by kernel_rfl)) (fun _ _ _ h => h) (Or.inl ⟨by rfl, ?_⟩) ?_ ?_
                                                    rotate_left
                                                    · intro w'
                                                      go_simp
                                                      with_reducible rfl
                                                    rotate_left
                                                    · simp only [Act.put, List.setIfInBounds_toArray, List.set_cons_zero, List.set_cons_succ, i64_w, i32_w]
                                                      rfl
                                                    refine done_ (done_of HT_.out (by kernel_rfl)) ?_
                                                    try go_wp2
                                                    go_roundg k4
                                                    case measure => have := HK1.out; have := HK2.out; have := HJ22.out; have := HK4.out; omega
                                                    case rel => exact ⟨((((x3_4 ++ (⟨#[32, 120]⟩ : ByteArray)) ++ t251) ++ (⟨#[61]⟩ : ByteArray)) ++ t253), (wrap64 (x7_4 + 1)), (by first | rfl | (simp; done) | (simp [*]; done)), (by first | rfl | (simp; done) | (simp [*]; done)), H', ⟨by have := HK1.out; have := HK2.out; have := HJ22.out; have := HK4.out; omega⟩, ⟨by (with_reducible repeat (first | refine blk_drewN ?_ _ | refine blk_drew ?_ | refine blk_alloc ?_ _)); exact BK235.out⟩, ⟨by (with_reducible repeat (first | refine blk_drewN ?_ _ | refine blk_drew ?_ | refine blk_alloc ?_ _)); exact BK241.out⟩, ⟨by repeat (first | (with_reducible first | exact HB.out | apply below_alloc | apply pw_below_drewN | apply below_drew1 | refine below_set ?_ GE235.out | refine below_set ?_ GE241.out) | exact HB.out)⟩⟩
                                                  · rw [if_neg c58] at H
                                                    exact absurd H (by simp)
                                                · rw [if_neg c56] at H
                                                  exact absurd H (by simp)
                                              · rw [if_neg c55] at H
                                                exact absurd H (by simp)
                                            · rw [if_neg c53] at H
                                              exact absurd H (by simp)
                                          · rw [if_neg c52] at H
                                            exact absurd H (by simp)
                                        · rw [if_neg c51] at H
                                          have c51b0 : decide (x7_4 < (((rd_T59 l0_2 x5_2).f4).length : Int)) = false := decide_eq_false c51
                                          clear c51
                                          by_cases c62 : x3_4.size + 1 ≤ 9223372036854775807
                                          · rw [if_pos c62] at H
                                            have c62b0 := eq_true c62
                                            have c62b1 : decide (x3_4.size + 1 ≤ 9223372036854775807) = true := decide_eq_true c62
                                            try have c62b2 : (9223372036854775807 < x3_4.size + 1) = False := eq_false (Nat.not_lt.2 c62)
                                            try have c62b3 := c62b2
                                            try simp only [ByteArray.size_append, szt_0, szt_1, szt_2, szt_3, szt_4, szt_5, szt_6, szt_7, szt_8, szt_9, szt_10, szt_11, szt_12, szt_13] at c62b3
                                            have H' := Aside0.mk H
                                            clear H
                                            have hnb63 := NB241_235.out
                                            have hnc63 := NB235_241.out
                                            have hcz64_0 : wr.cell? ⟨gb241, 0, none⟩ = some (.int .i64 ((rd_T59 l0_2 x5_2).f0)) := (blk_cell BK241.out 0).trans rfl
                                            have hcz64_1 : wr.cell? ⟨gb241, 1, none⟩ = some (.int .u32 ((rd_T59 l0_2 x5_2).f1)) := (blk_cell BK241.out 1).trans rfl
                                            have hcz64_2 : wr.cell? ⟨gb241, 2, none⟩ = some (.int .i64 ((rd_T59 l0_2 x5_2).f2)) := (blk_cell BK241.out 2).trans rfl
                                            have hcz64_3 : wr.cell? ⟨gb241, 3, none⟩ = some (.int .i64 ((rd_T59 l0_2 x5_2).f3)) := (blk_cell BK241.out 3).trans rfl
                                            have hcz64_4 : wr.cell? ⟨gb241, 4, none⟩ = some (.slice A240_4 ((rd_T59 l0_2 x5_2).f4).length c240_4) := (blk_cell BK241.out 4).trans rfl
                                            have hfz64_0 := blk_frozen BK241.out 0
                                            have hfz64_1 := blk_frozen BK241.out 1
                                            have hfz64_2 := blk_frozen BK241.out 2
                                            have hfz64_3 := blk_frozen BK241.out 3
                                            have hfz64_4 := blk_frozen BK241.out 4
                                            go_wp2
                                            go_roundg k4
                                            case measure => have := HK1.out; have := HK2.out; have := HJ22.out; have := HK4.out; omega
                                            case rel => exact ⟨(x3_4 ++ (⟨#[10]⟩ : ByteArray)), (wrap64 (x5_2 + 1)), (by first | rfl | (simp; done) | (simp [*]; done)), (by first | rfl | (simp; done) | (simp [*]; done)), H', ⟨by have := HK1.out; have := HK2.out; have := HJ22.out; have := HK4.out; omega⟩, ⟨by (with_reducible repeat (first | refine blk_drewN ?_ _ | refine blk_drew ?_ | refine blk_alloc ?_ _)); exact BK235.out⟩, ⟨by repeat (first | (with_reducible first | exact HB.out | apply below_alloc | apply pw_below_drewN | apply below_drew1 | refine below_set ?_ GE235.out | refine below_set ?_ GE241.out) | exact HB.out)⟩⟩
                                          · rw [if_neg c62] at H
                                            exact absurd H (by simp)
                                  · rw [if_neg c45] at H
                                    exact absurd H (by simp)
                                · rw [if_neg c44] at H
                                  exact absurd H (by simp)
                              · rw [if_neg c43] at H
                                exact absurd H (by simp)
                            · rw [if_neg c42] at H
                              exact absurd H (by simp)
                      · rw [if_neg c22] at H
                        exact absurd H (by simp)
                    · rw [if_neg c20] at H
                      exact absurd H (by simp)
                  · rw [if_neg c19] at H
                    exact absurd H (by simp)
                · rw [if_neg c17] at H
                  exact absurd H (by simp)
              · rw [if_neg c16] at H
                exact absurd H (by simp)
            · rw [if_neg c15] at H
              have c15b0 : decide (x5_2 < (l0_2.length : Int)) = false := decide_eq_false c15
              clear c15
              by_cases c65 : x3_2.size + 5 ≤ 9223372036854775807
              · rw [if_pos c65] at H
                have c65b0 := eq_true c65
                have c65b1 : decide (x3_2.size + 5 ≤ 9223372036854775807) = true := decide_eq_true c65
                try have c65b2 : (9223372036854775807 < x3_2.size + 5) = False := eq_false (Nat.not_lt.2 c65)
                try have c65b3 := c65b2
                try simp only [ByteArray.size_append, szt_0, szt_1, szt_2, szt_3, szt_4, szt_5, szt_6, szt_7, szt_8, szt_9, szt_10, szt_11, szt_12, szt_13] at c65b3
                replace H := Option.bind_eq_some_iff.mp H
                obtain ⟨t239, A660, H⟩ := H
                replace H : (if (x3_2 ++ (⟨#[108, 97, 115, 116, 32]⟩ : ByteArray)).size + t239.size ≤ 9223372036854775807 then (if ((x3_2 ++ (⟨#[108, 97, 115, 116, 32]⟩ : ByteArray)) ++ t239).size + 1 ≤ 9223372036854775807 then (some (((x3_2 ++ (⟨#[108, 97, 115, 116, 32]⟩ : ByteArray)) ++ t239) ++ (⟨#[10]⟩ : ByteArray))) else (none)) else (none)) = some r := H
                have A66 := Aside0.mk A660
                clear A660
                by_cases c67 : (x3_2 ++ (⟨#[108, 97, 115, 116, 32]⟩ : ByteArray)).size + t239.size ≤ 9223372036854775807
                · rw [if_pos c67] at H
                  have c67b0 := eq_true c67
                  have c67b1 : decide ((x3_2 ++ (⟨#[108, 97, 115, 116, 32]⟩ : ByteArray)).size + t239.size ≤ 9223372036854775807) = true := decide_eq_true c67
                  try have c67b2 : (9223372036854775807 < (x3_2 ++ (⟨#[108, 97, 115, 116, 32]⟩ : ByteArray)).size + t239.size) = False := eq_false (Nat.not_lt.2 c67)
                  try have c67b3 := c67b2
                  try simp only [ByteArray.size_append, szt_0, szt_1, szt_2, szt_3, szt_4, szt_5, szt_6, szt_7, szt_8, szt_9, szt_10, szt_11, szt_12, szt_13] at c67b3
                  by_cases c68 : ((x3_2 ++ (⟨#[108, 97, 115, 116, 32]⟩ : ByteArray)) ++ t239).size + 1 ≤ 9223372036854775807
                  · rw [if_pos c68] at H
                    have c68b0 := eq_true c68
                    have c68b1 : decide (((x3_2 ++ (⟨#[108, 97, 115, 116, 32]⟩ : ByteArray)) ++ t239).size + 1 ≤ 9223372036854775807) = true := decide_eq_true c68
                    try have c68b2 : (9223372036854775807 < ((x3_2 ++ (⟨#[108, 97, 115, 116, 32]⟩ : ByteArray)) ++ t239).size + 1) = False := eq_false (Nat.not_lt.2 c68)
                    try have c68b3 := c68b2
                    try simp only [ByteArray.size_append, szt_0, szt_1, szt_2, szt_3, szt_4, szt_5, szt_6, szt_7, szt_8, szt_9, szt_10, szt_11, szt_12, szt_13] at c68b3
                    obtain rfl := Option.some.inj H
                    have hcz69_0 : wr.cell? ⟨gb235, 0, none⟩ = some (.slice A0_0 l0_0.length c0_0) := (blk_cell BK235.out 0).trans rfl
                    have hcz69_1 : wr.cell? ⟨gb235, 1, none⟩ = some (.slice A0_1 l0_1.length c0_1) := (blk_cell BK235.out 1).trans rfl
                    have hcz69_2 : wr.cell? ⟨gb235, 2, none⟩ = some (.slice A0_2 l0_2.length c0_2) := (blk_cell BK235.out 2).trans rfl
                    have hcz69_3 : wr.cell? ⟨gb235, 3, none⟩ = some (.int .i64 a0_3) := (blk_cell BK235.out 3).trans rfl
                    have hfz69_0 := blk_frozen BK235.out 0
                    have hfz69_1 := blk_frozen BK235.out 1
                    have hfz69_2 := blk_frozen BK235.out 2
                    have hfz69_3 := blk_frozen BK235.out 3
                    go_wp2_with (first | ((with_reducible refine gate_callee (f := 30) rfl ?_); refine goesL_ (some 105) rfl rfl Tryd.func30 (by kernel_rfl) rfl #[.int .i64 a0_3] rfl (by (try simp only [List.map_toArray, List.map_cons, List.map_nil]); first | done | rfl | (simp only [List.length_drop, List.length_take]; rfl)) ?_; (with_reducible refine (mimesisref23_num.calls k2 a0_3 t239 _ A66.out).mono ?_); rintro e w' ⟨rfl, ⟨nd, rfl⟩⟩; refine ⟨_, rfl, ?_⟩))
                    go_ret
                    exact ⟨by first | rfl | (simp [errW_none, errW_some] <;> rfl) | (simp [*, errW_none, errW_some] <;> rfl), by repeat (first | (with_reducible first | exact HB.out | apply below_alloc | apply pw_below_drewN | apply below_drew1 | refine below_set ?_ GE235.out) | exact HB.out)⟩
                  · rw [if_neg c68] at H
                    exact absurd H (by simp)
                · rw [if_neg c67] at H
                  exact absurd H (by simp)
              · rw [if_neg c65] at H
                exact absurd H (by simp)

end Go.Proofs.YtlnbghhhifnbdaaDoor.PIrTexts
