/- Contracts of disasm.Word and of the laws' example of layer 5, and the walks of the laws DisasmNumbers and DisasmTexts: each returns true. Conditions: numbers are of their kinds; the listed variables hold what the program's text lays in them. -/
import Derived.Test.YtnooikjkjcflbadDoorUi
import Derived.Test.YtnooikjkjcflbadDoorDg
namespace Go.Proofs.YtnooikjkjcflbadDoor
open Go.RowKit Go.Proofs.YtnooikjkjcflbadDoorW.PrintWords Go.Proofs.YtnooikjkjcflbadDoorW.PrintLast Go.Proofs.YtnooikjkjcflbadDoorW.PrintMore
set_option linter.unusedVariables false
set_option linter.unusedSimpArgs false

theorem word_a : kindV 4263550691 = 6 ∧ rightB 6 0 1 2 4294967292 0 = true ∧ formV 6 = 4 ∧ nameV 6 = ⟨#[98, 110, 101]⟩ := by decide +kernel
theorem num_1 : numS 1 = ⟨#[49]⟩ := by unfold numS numN chN; rw [digN_small _ (by decide)]; rfl
theorem num_2 : numS 2 = ⟨#[50]⟩ := by unfold numS numN chN; rw [digN_small _ (by decide)]; rfl
theorem num_0 : numS 0 = ⟨#[48]⟩ := by unfold numS numN chN; rw [digN_small _ (by decide)]; rfl
theorem num_m4 : numS (-4) = ⟨#[45, 52]⟩ := by unfold numS numN chN; rw [digN_small _ (by decide)]; rfl
theorem num_m120 : numS (-120) = ⟨#[45, 49, 50, 48]⟩ := by
  unfold numS numN chN
  rw [show (-120 : Int).natAbs = 120 from rfl, digN_big _ (by decide), show 120 / 10 = 12 from rfl, digN_big _ (by decide), show 12 / 10 = 1 from rfl, digN_small _ (by decide)]
  rfl
theorem text_a : textS 6 0 1 2 4294967292 0 = ⟨#[98, 110, 101, 32, 120, 49, 44, 32, 120, 50, 44, 32, 45, 52]⟩ := by
  unfold textS
  rw [word_a.2.2.1, word_a.2.2.2]
  simp only [textF, Int.reduceEq, if_true, if_false]
  rw [show wrap32 4294967292 = -4 by unfold wrap32; omega]
  unfold regS
  rw [num_1, num_2, num_m4]
  rfl
theorem ins_a5 : insV 4263550691 6 4 = .agg #[.int .i64 6, .int .i64 0, .int .i64 1, .int .i64 2, .int .u32 4294967292, .int .i64 0] := by
  have h : immV 4263550691 4 = 4294967292 := by decide +kernel
  simp [insV, oRd, oRs1, oRs2, oCsr, h]
theorem ins_z5 : kindV 0 = 0 ∧ formV 0 = 0 ∧ insV 0 0 0 = .agg #[.int .i64 0, .int .i64 0, .int .i64 0, .int .i64 0, .int .u32 0, .int .i64 0] := by
  refine ⟨by decide +kernel, by decide +kernel, ?_⟩
  have h : immV 0 0 = 0 := by decide +kernel
  simp [insV, oRd, oRs1, oRs2, oCsr, h]
theorem word_one (W : World) (hn : NamesIs W) (hf : FormsIs W) : Calls Tryd.prog 25 #[.int .u32 4263550691] W fun e w' => e = .returned (.string ⟨#[98, 110, 101, 32, 120, 49, 44, 32, 120, 50, 44, 32, 45, 52]⟩) ∧ Below W.heap.size W w' := by
  have h1 := dec_c 4263550691 (by decide) W hf
  rw [word_a.1, word_a.2.2.1, ins_a5] at h1
  have H1 := Lib.hid h1
  have H2 := Lib.hid (fun v (hb : Below W.heap.size W v) => text_a ▸ dtext_ok 6 0 1 2 4294967292 0 (by decide) (by decide) word_a.2.1 v (hn.below hb) (hf.below hb))
  clear h1 hn hf
  go_enter Tryd.func25, Tryd.ntmps25
  go_wp2_with fail
  refine H1.out.mono ?_
  rintro e w1 ⟨rfl, hb1⟩
  have HB1 := Lib.hid hb1
  clear hb1
  go_wp2_with fail
  refine (H2.out _ HB1.out).mono ?_
  rintro e w2 ⟨rfl, hb2⟩
  go_wp2
  go_ret
  exact ⟨rfl, bthen HB1.out hb2⟩
theorem word_none (W : World) (hn : NamesIs W) (hf : FormsIs W) : Calls Tryd.prog 25 #[.int .u32 0] W fun e w' => e = .returned (.string ⟨#[46, 119, 111, 114, 100, 32, 48]⟩) ∧ Below W.heap.size W w' := by
  have h1 := dec_c 0 (by decide) W hf
  rw [ins_z5.1, ins_z5.2.1, ins_z5.2.2] at h1
  have H1 := Lib.hid h1
  have H2 := Lib.hid (fun v (hb : Below W.heap.size W v) => dtext_no 0 0 0 0 0 0 (by decide) (.inl rfl) v (hf.below hb))
  have H3 := Lib.hid (fun v => num_0 ▸ number_c 0 ⟨by decide, by decide⟩ v)
  clear h1 hn hf
  go_enter Tryd.func25, Tryd.ntmps25
  go_wp2_with fail
  refine H1.out.mono ?_
  rintro e w1 ⟨rfl, hb1⟩
  have HB1 := Lib.hid hb1
  clear hb1
  go_wp2_with fail
  refine (H2.out _ HB1.out).mono ?_
  rintro e w2 ⟨rfl, hb2⟩
  have HB2 := Lib.hid (bthen HB1.out hb2)
  clear hb2
  go_wp2_with fail
  refine (H3.out _).mono ?_
  rintro e w3 ⟨rfl, hb3⟩
  have HB3 := Lib.hid (bthen HB2.out hb3)
  clear hb3
  go_wp2
  go_ret
  exact ⟨rfl, HB3.out⟩
theorem awake5_c (W : World) (hn : NamesIs W) (hf : FormsIs W) : Calls Tryd.prog 21 #[] W fun e w' => e = .returned (.bool true) ∧ Below W.heap.size W w' := by
  have H1 := Lib.hid (word_one W hn hf)
  have H2 := Lib.hid (fun v (hb : Below W.heap.size W v) => word_none v (hn.below hb) (hf.below hb))
  have H3 := Lib.hid (fun v => num_m120 ▸ number_c (-120) ⟨by decide, by decide⟩ v)
  clear hn hf
  go_enter Tryd.func21, Tryd.ntmps21
  go_wp2_with fail
  refine H1.out.mono ?_
  rintro e w1 ⟨rfl, hb1⟩
  have HB1 := Lib.hid hb1
  clear hb1
  go_wp2_with fail
  refine (H2.out _ HB1.out).mono ?_
  rintro e w2 ⟨rfl, hb2⟩
  have HB2 := Lib.hid (bthen HB1.out hb2)
  clear hb2
  go_wp2_with fail
  refine (H3.out _).mono ?_
  rintro e w3 ⟨rfl, hb3⟩
  have HB3 := Lib.hid (bthen HB2.out hb3)
  clear hb3
  go_wp2
  go_ret
  exact ⟨rfl, HB3.out⟩
theorem dnumbers_w (n : Int) (h : I64 n) (W : World) (hn : NamesIs W) (hf : FormsIs W) : Calls Tryd.prog 4 #[.int .i64 n] W fun e w' => e = .returned (.bool true) ∧ Below W.heap.size W w' := by
  have H1 := Lib.hid (fun v => number_c n h v)
  have H2 := Lib.hid (fun v => rnumber_c n h v)
  have H3 := Lib.hid (fun v => register_c n h v)
  have H4 := Lib.hid (fun v => rregister_c n h v)
  have HA := Lib.hid (fun v (hb : Below W.heap.size W v) => awake5_c v (hn.below hb) (hf.below hb))
  clear h hn hf
  generalize numS n = x at *
  generalize regS n = y at *
  go_enter Tryd.func4, Tryd.ntmps4
  go_wp2_with fail
  refine (H1.out _).mono ?_
  rintro e w1 ⟨rfl, hb1⟩
  have HB1 := Lib.hid hb1
  clear hb1
  go_wp2_with fail
  refine (H2.out _).mono ?_
  rintro e w' ⟨rfl, ⟨nd, rfl⟩⟩
  go_wp2_with fail
  refine (H3.out _).mono ?_
  rintro e w2 ⟨rfl, hb2⟩
  have HB2 := Lib.hid (bthen (bdn HB1.out nd) hb2)
  clear hb2
  go_wp2_with fail
  refine (H4.out _).mono ?_
  rintro e w' ⟨rfl, ⟨ne, rfl⟩⟩
  go_wp2_with fail
  refine (HA.out _ (bdn HB2.out ne)).mono ?_
  rintro e w3 ⟨rfl, hb3⟩
  have HB3 := Lib.hid (bthen (bdn HB2.out ne) hb3)
  clear hb3
  go_wp2
  go_ret
  exact ⟨rfl, HB3.out⟩
theorem dtexts_w (op rd rs1 rs2 imm csr : Int) (hi : 0 ≤ imm ∧ imm ≤ 4294967295) (W : World) (hn : NamesIs W) (hf : FormsIs W) :
    Calls Tryd.prog 5 #[.agg #[.int .i64 op, .int .i64 rd, .int .i64 rs1, .int .i64 rs2, .int .u32 imm, .int .i64 csr]] W fun e w' => e = .returned (.bool true) ∧ Below W.heap.size W w' := by
  have HA := Lib.hid (fun v (hb : Below W.heap.size W v) => awake5_c v (hn.below hb) (hf.below hb))
  have hbw := bal (Below.refl W.heap.size W) (.cells #[.int .i64 op, .int .i64 rd, .int .i64 rs1, .int .i64 rs2, .int .u32 imm, .int .i64 csr] 53)
  have key : ∃ (s : ByteArray) (E : Int) (ok : Bool), ((E = 0 ∧ ok = true) ∨ (E = 9 ∧ ok = false)) ∧
      (∀ v, Below W.heap.size W v → Calls Tryd.prog 22 #[.agg #[.int .i64 op, .int .i64 rd, .int .i64 rs1, .int .i64 rs2, .int .u32 imm, .int .i64 csr]] v fun e w' => e = .returned (.tuple #[.string s, .int .i64 E]) ∧ Below v.heap.size v w') ∧
      (∀ v, Calls Tryd.prog 23 #[.agg #[.int .i64 op, .int .i64 rd, .int .i64 rs1, .int .i64 rs2, .int .u32 imm, .int .i64 csr]] v fun e w' => e = .returned (.tuple #[.string s, .bool ok]) ∧ Below v.heap.size v w') := by
    by_cases h0 : op = 0
    · exact ⟨_, 9, false, .inr ⟨rfl, rfl⟩, fun v hb => dtext_no op rd rs1 rs2 imm csr hi (.inl h0) v (hf.below hb), fun v => rtext_no op rd rs1 rs2 imm csr hi (.inl h0) v⟩
    · rcases Bool.eq_false_or_eq_true (rightB op rd rs1 rs2 imm csr) with hr | hr
      · exact ⟨_, 0, true, .inl ⟨rfl, rfl⟩, fun v hb => dtext_ok op rd rs1 rs2 imm csr hi h0 hr v (hn.below hb) (hf.below hb), fun v => rtext_ok op rd rs1 rs2 imm csr hi h0 hr v⟩
      · exact ⟨_, 9, false, .inr ⟨rfl, rfl⟩, fun v hb => dtext_no op rd rs1 rs2 imm csr hi (.inr hr) v (hf.below hb), fun v => rtext_no op rd rs1 rs2 imm csr hi (.inr hr) v⟩
  obtain ⟨s, E, ok, hE, hT, hX⟩ := key
  have HT := Lib.hid hT
  have HX := Lib.hid hX
  have HBW := Lib.hid hbw
  clear hT hX hbw hn hf hi
  go_enter Tryd.func5, Tryd.ntmps5
  go_wp2_with fail
  refine (HT.out _ HBW.out).mono ?_
  rintro e w1 ⟨rfl, hb1⟩
  have hc := (bcf hb1).1
  have HB1 := Lib.hid (bthen HBW.out hb1)
  have z1 : W.heap.size < w1.heap.size := by have := hb1.size; simp at this; omega
  have z2 : ¬ W.heap.size = w1.heap.size := by omega
  clear hb1
  go_wp2_with fail
  refine (HX.out _).mono ?_
  rintro e w2 ⟨rfl, hb2⟩
  have HB2 := Lib.hid (bthen HB1.out hb2)
  clear hb2 hc z1 z2
  rcases hE with ⟨rfl, rfl⟩ | ⟨rfl, rfl⟩
  all_goals
    go_wp2_with fail
    refine (HA.out _ HB2.out).mono ?_
    rintro e w3 ⟨rfl, hb3⟩
    have HB3 := Lib.hid (bthen HB2.out hb3)
    clear hb3
    go_wp2
    go_ret
    exact ⟨rfl, HB3.out⟩
end Go.Proofs.YtnooikjkjcflbadDoor
