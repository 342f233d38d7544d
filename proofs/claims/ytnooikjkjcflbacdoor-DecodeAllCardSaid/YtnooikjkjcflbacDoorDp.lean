/- Contract of decode.All, and the walk of the law DecodeAll: it returns true. Conditions: words are words; the listed variable holds what the program's text lays in it. -/
import Derived.Test.YtnooikjkjcflbacDoorDz
import Derived.Test.YtnooikjkjcflbacDoorKi
namespace Go.Proofs.YtnooikjkjcflbacDoor
open Go.RowKit Go.Proofs.YtnooikjkjcflbacDoorW.PrintWords Go.Proofs.YtnooikjkjcflbacDoorW.PrintLast Go.Proofs.YtnooikjkjcflbacDoorW.PrintMore
set_option linter.unusedVariables false
set_option linter.unusedSimpArgs false

theorem infoI : (Tryd.prog.info? 24).map (fun i => (i.zero, i.size, i.bytes)) = some (some (.agg #[.int .i64 0, .int .i64 0, .int .i64 0, .int .i64 0, .int .u32 0, .int .i64 0]), 6, 48) := by kernel_rfl
def decS (w : Int) : S24 := ⟨kindV w, oRd (formV (kindV w)) (w / 128 % 32), oRs1 (formV (kindV w)) (w / 32768 % 32), oRs2 (formV (kindV w)) (w / 1048576 % 32), immV w (formV (kindV w)), oCsr (formV (kindV w)) (w / 1048576)⟩
def agS (x : S24) : Value := .agg #[.int .i64 x.f0, .int .i64 x.f1, .int .i64 x.f2, .int .i64 x.f3, .int .u32 x.f4, .int .i64 x.f5]
theorem decS_is (w : Int) : insV w (kindV w) (formV (kindV w)) = agS (decS w) := rfl
theorem take_dec (zs : List Int) (k : Nat) (h : k < zs.length) : (zs.take (k + 1)).map decS = (zs.take k).map decS ++ [decS (rd zs (k : Int))] := by
  rw [List.take_succ_eq_append_getElem h, List.map_append]
  simp [rd, h]
theorem take_dec' (zs : List Int) (k : Nat) (h : k < zs.length) : (zs.map decS).take (k + 1) = (zs.map decS).take k ++ [decS (rd zs (k : Int))] := by
  rw [← List.map_take, ← List.map_take, take_dec zs k h]
theorem rd_mem (zs : List Int) (k : Nat) (h : k < zs.length) : rd zs (k : Int) ∈ zs := by
  simp [rd, h]
theorem rd_dec (zs : List Int) (k : Nat) (h : k < zs.length) : rd_T24 (zs.map decS) (k : Int) = decS (rd zs (k : Int)) := by
  simp [rd_T24, rd, h]
set_option maxHeartbeats 4000000 in
set_option maxRecDepth 100000 in
theorem dall_c (A : Option Addr) (c : Nat) (zs : List Int) (hl : zs.length ≤ 1000) (w : World) (hC : (Kd.int .u32).C w A zs.length zs) (hi : ∀ z ∈ zs, 0 ≤ z ∧ z ≤ 4294967295) (hf : FormsIs w) :
    Calls Tryd.prog 12 #[.slice A zs.length c] w fun e w' => (∃ v, e = .returned v ∧ Kd.R k24 24 w' w.heap.size (fun _ => True) v (zs.map decS)) ∧ Below w.heap.size w w' := by
  have HD := Lib.hid (fun z (hz : 0 ≤ z ∧ z ≤ 4294967295) v (hb : Below w.heap.size w v) => (decS_is z) ▸ dec_c z hz v (hf.below hb))
  have HC := Lib.hid hC
  have HI := Lib.hid hi
  clear hf hC hi
  go_enter Tryd.func12, Tryd.ntmps12
  go_wp2
  go_loopw [3, 8] (fun v i wr => ∃ k : Nat, k ≤ zs.length ∧ i = .int .i64 k ∧ Hid (Kd.R k24 24 wr w.heap.size (fun _ => True) v ((zs.map decS).take k)) ∧ Hid (Below w.heap.size w wr)) (fun _ i _ => zs.length - (intOf i).toNat)
  case atStart => exact ⟨0, Nat.zero_le _, rfl, Lib.hid (Kd.R_nil _ _ _ _ _), Lib.hid (Below.refl _ _)⟩
  case round =>
    obtain ⟨k, hk, rfl, HR, HB⟩ := hrel
    by_cases hlt : k < zs.length
    · obtain ⟨ad, rfl, c0⟩ := Kd.at_int (Kd.C_below HC.out HB.out) (k : Int) (by omega) (by omega)
      have HT := Lib.hid (take_dec' zs k hlt)
      have HE := Lib.hid (HD.out _ (HI.out _ (rd_mem zs k hlt)))
      simp only [Int.toNat_natCast] at c0
      generalize rd zs (k : Int) = y at *
      generalize decS y = q at *
      unfold agS at HE
      go_wp2_with fail
      refine (HE.out _ HB.out).mono ?_
      rintro e w1 ⟨rfl, hb1⟩
      have HB1 := Lib.hid (bthen HB.out hb1)
      have HR1 := Lib.hid (Kd.R_below HR.out hb1)
      clear hb1
      go_wp2_with (at_builtin; refine Kd.R_append k24 (w0 := w) w.heap.size rfl _ _ 30 24 (.agg #[.int .i64 0, .int .i64 0, .int .i64 0, .int .i64 0, .int .u32 0, .int .i64 0]) 48 rfl Tryd.underlying30 infoI rfl (by decide) (by decide) u3 ((zs.map decS).take k) q [.int .i64 q.f0, .int .i64 q.f1, .int .i64 q.f2, .int .i64 q.f3, .int .u32 q.f4, .int .i64 q.f5] (fun _ => True) (fun _ => False) rfl rfl (k24_mkM _ _ _ _) (fun _ hk => hk.elim) (fun _ _ => trivial) HR1.out HB1.out HB1.out.size (by simp; omega) ?_)
      intro v1 w2 ho2 hb2 _ _
      have HR2 := Lib.hid ho2
      have HB2 := Lib.hid hb2
      clear ho2 hb2
      go_wp2
      go_roundw
      case rel => exact ⟨k + 1, by omega, by go_num, Lib.hid (by rw [HT.out]; exact HR2.out), HB2⟩
      case measure => simp [intOf]; omega
    · obtain rfl : k = zs.length := by omega
      have HR' := Lib.hid (by have := HR.out; rw [List.take_of_length_le (by simp)] at this; exact this)
      go_wp2
      go_ret
      exact ⟨⟨_, rfl, HR'.out⟩, HB.out⟩
theorem fcellp {w : World} {S : Type} {F : S → World} (hF : ∀ s, Below w.heap.size w (F s)) {p : Addr} {v : Value} (hv : w.cell? p = some v) : ∀ s, (F s).cell? p = some v := fun s =>
  ((hF s).cell (p := p) (World.block_lt_of_cell? w p hv)).trans hv
theorem dall_long (A : Option Addr) (n c : Nat) (hl : 1000 < (n : Int)) (W : World) (hf : FormsIs W) :
    Calls Tryd.prog 5 #[.slice A n c] W fun e w' => e = .returned (.bool true) ∧ Below W.heap.size W w' := by
  have HAW := Lib.hid (awake3_c W hf)
  clear hf
  go_enter Tryd.func5, Tryd.ntmps5
  go_wp2_with fail
  refine HAW.out.mono ?_
  rintro e w1 ⟨rfl, hb1⟩
  go_wp2
  go_ret
  exact ⟨rfl, hb1⟩
set_option maxHeartbeats 8000000 in
set_option maxRecDepth 100000 in
theorem dall_w (A : Option Addr) (n c : Nat) (zs : List Int) (hn : zs.length = n) (W : World) (hC : (Kd.int .u32).C W A n zs) (hi : ∀ z ∈ zs, 0 ≤ z ∧ z ≤ 4294967295) (hf : FormsIs W) :
    Calls Tryd.prog 5 #[.slice A n c] W fun e w' => e = .returned (.bool true) ∧ Below W.heap.size W w' := by
  subst hn
  by_cases hl : zs.length ≤ 1000
  case neg => exact dall_long A _ c (by omega) W hf
  have HA := Lib.hid (dall_c A c zs hl W hC hi hf)
  have HD := Lib.hid (fun z (hz : 0 ≤ z ∧ z ≤ 4294967295) v => (decS_is z) ▸ (dform_same (kindV z) (kind_rng z)) ▸ rdec_c z hz v)
  have HAW := Lib.hid (fun v (hb : Below W.heap.size W v) => awake3_c v (hf.below hb))
  have HC := Lib.hid hC
  have HI := Lib.hid hi
  have hl2 : ¬ (1000 : Int) < (zs.length : Int) := by omega
  clear hf hC hi
  go_enter Tryd.func5, Tryd.ntmps5
  go_wp2_with fail
  refine HA.out.mono ?_
  rintro e w1 ⟨⟨v, rfl, hR⟩, hb1⟩
  have HB1 := Lib.hid hb1
  obtain ⟨A1, c1, rfl, hc1, hC1⟩ := Kd.R_reads hR
  rw [List.length_map] at hC1 hc1
  have HC1 := Lib.hid hC1
  rw [List.length_map]
  clear hR hb1 hC1 hc1
  go_wp2
  go_loopw [4] (fun i wr => ∃ k : Nat, k ≤ zs.length ∧ i = .int .i64 k ∧ Hid (Below w1.heap.size w1 wr)) (fun i _ => zs.length - (intOf i).toNat)
  case atStart => exact ⟨0, Nat.zero_le _, rfl, Lib.hid (Below.refl _ _)⟩
  case round =>
    obtain ⟨k, hk, rfl, HB⟩ := hrel
    by_cases hlt : k < zs.length
    · obtain ⟨ad, rfl, c0⟩ := Kd.at_int (Kd.C_below HC.out (bthen HB1.out HB.out)) (k : Int) (by omega) (by omega)
      obtain ⟨ad1, rfl, d0, d1, d2, d3, d4, d5⟩ := at_T24 (Kd.C_below HC1.out HB.out) (k : Int) (by omega) (by omega)
      rw [rd_dec zs k hlt] at d0 d1 d2 d3 d4 d5
      have HE := Lib.hid (HD.out _ (HI.out _ (rd_mem zs k hlt)))
      simp only [Int.toNat_natCast] at c0 d0 d1 d2 d3 d4 d5
      generalize rd zs (k : Int) = y at *
      generalize decS y = q at *
      unfold agS at HE
      have k1 : (k : Int) < (zs.length : Int) := by omega
      have k2 : (0 : Int) ≤ (k : Int) := by omega
      go_wp2
      refine wp_region_below (by kernel_rfl) (by kernel_rfl) ?_
      intro S _ F hF hS
      have f0 := fcellp hF d0
      have f1 := fcellp hF d1
      have f2 := fcellp hF d2
      have f3 := fcellp hF d3
      have f4 := fcellp hF d4
      have f5 := fcellp hF d5
      have g0 := fcellp hF c0
      repeat (go_big_quiet_step (first | (go_at_call 13; exact qbelow hS (HE.out _))))
      refine wpQuiet_nil ?_
      intro w3 hw3
      obtain ⟨s3, rfl⟩ := hw3
      have HB3 := Lib.hid (bthen HB.out (hF s3))
      clear f0 f1 f2 f3 f4 f5 g0 hF hS
      generalize F s3 = w3 at *
      go_wp2
      go_roundw
      case rel => exact ⟨k + 1, by omega, by go_num, HB3⟩
      case measure => simp [intOf]; omega
    · obtain rfl : k = zs.length := by omega
      go_wp2_with (go_at_call 11; refine (HAW.out _ (bthen HB1.out HB.out)).mono ?_; rintro e w4 ⟨rfl, hb4⟩)
      go_ret
      exact ⟨rfl, bthen (bthen HB1.out HB.out) hb4⟩
end Go.Proofs.YtnooikjkjcflbacDoor
