/- Contract of disasm.Lines, and the walk of the law DisasmWords: it returns true. Conditions: words are words; the listed variables hold what the program's text lays in them. -/
import Derived.Test.YtnooikjkjcflbadDoorIr2
import Derived.Test.YtnooikjkjcflbadDoorIr3
import Derived.Test.YtnooikjkjcflbadDoorUe
import Derived.Test.YtnooikjkjcflbadDoorUf
import Derived.Test.YtnooikjkjcflbadDoorUg
import Derived.Test.YtnooikjkjcflbadDoorUh
import Derived.Test.YtnooikjkjcflbadDoorDg
import Derived.Test.YtnooikjkjcflbadDoorDh
/- The program's forms and the reference's are one. Conditions: none. -/
namespace Go.Proofs.YtnooikjkjcflbadDoor
open Go.RowKit
set_option linter.unusedVariables false
set_option linter.unusedSimpArgs false

theorem form_eq : ∀ i, i < 58 → rformV ((i : Nat) : Int) = formsAt i := by decide +kernel
end Go.Proofs.YtnooikjkjcflbadDoor

/- The program's test of an instruction and the reference's are one. Conditions: words are words. -/
namespace Go.Proofs.YtnooikjkjcflbadDoor
open Go.RowKit
set_option linter.unusedVariables false
set_option linter.unusedSimpArgs false

theorem form_same {op : Int} (h : hasB op = true) : formV op = rformV op := by
  obtain ⟨h0, h1⟩ := has_t h
  obtain ⟨i, rfl⟩ := Int.eq_ofNat_of_zero_le h0
  rw [formV, if_pos h, form_eq i (by omega)]; rfl
theorem right_same (op rd rs1 rs2 imm csr : Int) (hi : 0 ≤ imm ∧ imm ≤ 4294967295) : rightB op rd rs1 rs2 imm csr = rrightB op rd rs1 rs2 imm csr := by
  rcases Bool.eq_false_or_eq_true (hasB op) with h | h
  · have hf := form_same h
    have hr := rform_rng op
    simp only [rightB, rrightB, h, hf, Bool.true_and]
    generalize rformV op = f at *
    clear hf h
    rcases (by omega : f = 0 ∨ f = 1 ∨ f = 2 ∨ f = 3 ∨ f = 4 ∨ f = 5 ∨ f = 6 ∨ f = 7 ∨ f = 8 ∨ f = 9) with rfl | rfl | rfl | rfl | rfl | rfl | rfl | rfl | rfl | rfl
    all_goals
      rw [Bool.eq_iff_iff]
      simp [onlyB, oRd, oRs1, oRs2, oImm, oCsr, regB, rregB, numB, evB, rimmB, rsigB]
      try grind
  · simp [rightB, rrightB, h]
end Go.Proofs.YtnooikjkjcflbadDoor

/- Contracts of disasm.Text and of the reference's Text: one text, or none. Conditions: numbers are of their kinds; the listed variables hold what the program's text lays in them. -/
namespace Go.Proofs.YtnooikjkjcflbadDoor
open Go.RowKit Go.Proofs.YtnooikjkjcflbadDoorW.PrintWords Go.Proofs.YtnooikjkjcflbadDoorW.PrintLast Go.Proofs.YtnooikjkjcflbadDoorW.PrintMore Go.Proofs.YtnooikjkjcflbadDoor.PDisasmWords
set_option linter.unusedVariables false
set_option linter.unusedSimpArgs false

theorem cs_split : (⟨#[44, 32]⟩ : ByteArray) = cm ++ sp := rfl
theorem with2_is (n a b : ByteArray) : with2 n a b = (((n ++ (⟨#[32]⟩ : ByteArray)) ++ a) ++ (⟨#[44, 32]⟩ : ByteArray)) ++ b := by
  rw [cs_split, show (⟨#[32]⟩ : ByteArray) = sp from rfl]
  unfold with2
  simp only [ByteArray.append_assoc]
theorem with3_is (n a b c : ByteArray) : with3 n a b c = (((((n ++ (⟨#[32]⟩ : ByteArray)) ++ a) ++ (⟨#[44, 32]⟩ : ByteArray)) ++ b) ++ (⟨#[44, 32]⟩ : ByteArray)) ++ c := by
  rw [cs_split, show (⟨#[32]⟩ : ByteArray) = sp from rfl]
  unfold with3
  simp only [ByteArray.append_assoc]
theorem with2_beside (n a : ByteArray) (imm rs1 : Int) : with2 n a (besideS imm rs1) = ((((((n ++ (⟨#[32]⟩ : ByteArray)) ++ a) ++ (⟨#[44, 32]⟩ : ByteArray)) ++ numS (wrap32 imm)) ++ (⟨#[40]⟩ : ByteArray)) ++ regS rs1) ++ (⟨#[41]⟩ : ByteArray) := by
  rw [cs_split, show (⟨#[32]⟩ : ByteArray) = sp from rfl]
  unfold with2 besideS op1 cl1
  simp only [ByteArray.append_assoc]
/-- An instruction's text, of a right one. -/
def textF (f op : Int) (n : ByteArray) (rd rs1 rs2 imm csr : Int) : ByteArray :=
  if f = 0 then n
  else if f = 1 then with2 n (regS rd) (numS (imm / 4096))
  else if f = 2 then with2 n (regS rd) (numS (wrap32 imm))
  else if f = 3 then (if op ≤ 15 then with2 n (regS rd) (besideS imm rs1) else with3 n (regS rd) (regS rs1) (numS (wrap32 imm)))
  else if f = 4 then with3 n (regS rs1) (regS rs2) (numS (wrap32 imm))
  else if f = 5 then with2 n (regS rs2) (besideS imm rs1)
  else if f = 6 then with3 n (regS rd) (regS rs1) (regS rs2)
  else if f = 7 then with3 n (regS rd) (regS rs1) (numS imm)
  else if f = 8 then with3 n (regS rd) (numS csr) (regS rs1)
  else with3 n (regS rd) (numS csr) (numS imm)
def textS (op rd rs1 rs2 imm csr : Int) : ByteArray := textF (formV op) op (nameV op) rd rs1 rs2 imm csr
theorem nm_size : ∀ i, i < 58 → (nameAt i).size ≤ 100 := by decide +kernel
theorem loads_dec : ∀ i : Nat, i < 58 → formsAt i = 3 → i = 4 ∨ (¬ i = 4 ∧ ((i ≤ 15 ∧ ∃ l, inst_Loads.f 9 (i : Int) = some l ∧ 0 < l) ∨ (15 < i ∧ inst_Loads.f 9 (i : Int) = some 0))) := by
  intro i hi hf
  have h : (formsAt i = 3 → i = 4 ∨ (¬ i = 4 ∧ ((i ≤ 15 ∧ (match inst_Loads.f 9 (i : Int) with | some l => decide (0 < l) | none => false) = true) ∨ (15 < i ∧ inst_Loads.f 9 (i : Int) = some 0)))) := by
    revert i
    decide +kernel
  rcases h hf with h | ⟨h4, h | h⟩
  · exact .inl h
  · refine .inr ⟨h4, .inl ⟨h.1, ?_⟩⟩
    cases hl : inst_Loads.f 9 (i : Int) with
    | none => rw [hl] at h; exact absurd h.2 (by decide)
    | some l => rw [hl] at h; exact ⟨l, rfl, by simpa using h.2⟩
  · exact .inr ⟨h4, .inr h⟩
theorem right_nums {op rd rs1 rs2 imm csr : Int} (h : rightB op rd rs1 rs2 imm csr = true) : hasB op = true ∧ I64 rd ∧ I64 rs1 ∧ I64 rs2 ∧ I64 csr ∧ numB (formV op) imm = true := by
  unfold rightB onlyB regB at h
  simp only [Bool.and_eq_true, decide_eq_true_eq, beq_iff_eq] at h
  obtain ⟨⟨⟨⟨⟨⟨⟨h0, h1⟩, h2⟩, h3⟩, h4⟩, h5⟩, h6⟩, h7⟩ := h
  exact ⟨h0, ⟨by omega, by omega⟩, ⟨by omega, by omega⟩, ⟨by omega, by omega⟩, ⟨by omega, by omega⟩, h5⟩
set_option maxHeartbeats 4000000 in
theorem dtext_ok (op rd rs1 rs2 imm csr : Int) (hi : 0 ≤ imm ∧ imm ≤ 4294967295) (ho : ¬ op = 0) (hr : rightB op rd rs1 rs2 imm csr = true) (W : World) (hn : NamesIs W) (hf : FormsIs W) :
    Calls Tryd.prog 22 #[.agg #[.int .i64 op, .int .i64 rd, .int .i64 rs1, .int .i64 rs2, .int .u32 imm, .int .i64 csr]] W fun e w' => e = .returned (.tuple #[.string (textS op rd rs1 rs2 imm csr), .int .i64 0]) ∧ Below W.heap.size W w' := by
  obtain ⟨h0, h1, h2, h3, h4, _⟩ := right_nums hr
  obtain ⟨i, hie⟩ := Int.eq_ofNat_of_zero_le (has_t h0).1
  have hi58 : i < 58 := by have := (has_t h0).2; omega
  have he : hasE op = 0 := by simp [hasE, h0]
  have hnv : nameV op = nameAt i := by unfold nameV; rw [if_pos h0, hie]; rfl
  have hfv : formV op = formsAt i := by unfold formV; rw [if_pos h0, hie]; rfl
  have hsz : (nameV op).size ≤ 100 := by rw [hnv]; exact nm_size i hi58
  have HR : Hid (∀ v, Below W.heap.size W v → Calls Tryd.prog 44 #[.agg #[.int .i64 op, .int .i64 rd, .int .i64 rs1, .int .i64 rs2, .int .u32 imm, .int .i64 csr]] v fun e w' => e = .returned (.bool true) ∧ Below v.heap.size v w') := Lib.hid (fun v hv => hr ▸ right_c op rd rs1 rs2 imm csr hi v (hf.below hv))
  have HN : Hid (∀ v, Below W.heap.size W v → Calls Tryd.prog 45 #[.int .i64 op] v fun e w' => e = .returned (.tuple #[.string (nameV op), .int .i64 0]) ∧ v = w') := Lib.hid (fun v hv => he ▸ name_c op v (hn.below hv))
  have HF : Hid (∀ v, Below W.heap.size W v → Calls Tryd.prog 46 #[.int .i64 op] v fun e w' => e = .returned (.tuple #[.int .i64 (formV op), .int .i64 0]) ∧ v = w') := Lib.hid (fun v hv => he ▸ form_c op v (hf.below hv))
  have hfr := form_rng op
  have hld := loads_dec i hi58
  rw [← hfv] at hld
  unfold textS
  clear hr he hf hn hnv hfv
  generalize formV op = f at *
  generalize nameV op = n at *
  rcases (by omega : f = 0 ∨ f = 1 ∨ f = 2 ∨ f = 3 ∨ f = 4 ∨ f = 5 ∨ f = 6 ∨ f = 7 ∨ f = 8 ∨ f = 9) with rfl | rfl | rfl | rfl | rfl | rfl | rfl | rfl | rfl | rfl
  all_goals simp only [textF, Int.reduceEq, if_true, if_false]
  · exact dtext_f0 op rd rs1 rs2 imm csr n hsz ho h1 h2 h3 h4 hi W HR HN HF
  · exact dtext_f1 op rd rs1 rs2 imm csr n hsz ho h1 h2 h3 h4 hi W HR HN HF
  · exact dtext_f2 op rd rs1 rs2 imm csr n hsz ho h1 h2 h3 h4 hi W HR HN HF
  · rcases hld rfl with h | ⟨hne, ⟨hle, l, hl, hl0⟩ | ⟨hgt, hl⟩⟩
    · rw [if_pos (by omega)]
      exact dtext_f3a op rd rs1 rs2 imm csr n hsz ho (by omega) h1 h2 h3 h4 hi W HR HN HF
    · rw [if_pos (by omega)]
      exact dtext_f3c op rd rs1 rs2 imm csr n hsz ho (by omega) l hl0 (Lib.hid fun v => hie ▸ inst_Loads.calls 9 _ l v hl) h1 h2 h3 h4 hi W HR HN HF
    · rw [if_neg (by omega)]
      exact dtext_f3b op rd rs1 rs2 imm csr n hsz ho (by omega) (Lib.hid fun v => hie ▸ inst_Loads.calls 9 _ 0 v hl) h1 h2 h3 h4 hi W HR HN HF
  · exact dtext_f4 op rd rs1 rs2 imm csr n hsz ho h1 h2 h3 h4 hi W HR HN HF
  · exact dtext_f5 op rd rs1 rs2 imm csr n hsz ho h1 h2 h3 h4 hi W HR HN HF
  · exact dtext_f6 op rd rs1 rs2 imm csr n hsz ho h1 h2 h3 h4 hi W HR HN HF
  · exact dtext_f7 op rd rs1 rs2 imm csr n hsz ho h1 h2 h3 h4 hi W HR HN HF
  · exact dtext_f8 op rd rs1 rs2 imm csr n hsz ho h1 h2 h3 h4 hi W HR HN HF
  · exact dtext_f9 op rd rs1 rs2 imm csr n hsz ho h1 h2 h3 h4 hi W HR HN HF
set_option maxRecDepth 100000 in
theorem dtext_no (op rd rs1 rs2 imm csr : Int) (hi : 0 ≤ imm ∧ imm ≤ 4294967295) (hn : op = 0 ∨ rightB op rd rs1 rs2 imm csr = false) (W : World) (hf : FormsIs W) :
    Calls Tryd.prog 22 #[.agg #[.int .i64 op, .int .i64 rd, .int .i64 rs1, .int .i64 rs2, .int .u32 imm, .int .i64 csr]] W fun e w' => e = .returned (.tuple #[.string ⟨#[]⟩, .int .i64 9]) ∧ Below W.heap.size W w' := by
  by_cases h0 : op = 0
  · subst h0
    clear hn
    go_enter Tryd.func22, Tryd.ntmps22
    go_wp2
    go_ret2
    refine ⟨rfl, ?_⟩
    repeat (first | (with_reducible exact Below.refl _ _) | (with_reducible refine bal ?_ _) | (with_reducible refine Below.drew ?_) | (with_reducible refine bdn ?_ _))
  · have hr : rightB op rd rs1 rs2 imm csr = false := hn.resolve_left h0
    have HR := Lib.hid (fun v (hv : FormsIs v) => hr ▸ right_c op rd rs1 rs2 imm csr hi v hv)
    have HF := Lib.hid hf
    have k0 := nb h0
    clear hr hn hi h0 hf
    go_enter Tryd.func22, Tryd.ntmps22
    go_wp2_with fail
    refine (HR.out _ (HF.out.below (bal (Below.refl _ _) _))).mono ?_
    rintro e w1 ⟨rfl, hb1⟩
    have HB1 := Lib.hid (bthen (bal (Below.refl W.heap.size W) _) hb1)
    clear hb1
    go_wp2
    go_ret2
    exact ⟨rfl, HB1.out⟩
set_option maxRecDepth 100000 in
theorem rtext_no (op rd rs1 rs2 imm csr : Int) (hi : 0 ≤ imm ∧ imm ≤ 4294967295) (hn : op = 0 ∨ rightB op rd rs1 rs2 imm csr = false) (W : World) :
    Calls Tryd.prog 23 #[.agg #[.int .i64 op, .int .i64 rd, .int .i64 rs1, .int .i64 rs2, .int .u32 imm, .int .i64 csr]] W fun e w' => e = .returned (.tuple #[.string ⟨#[]⟩, .bool false]) ∧ Below W.heap.size W w' := by
  by_cases h0 : op = 0
  · subst h0
    clear hn
    go_enter Tryd.func23, Tryd.ntmps23
    go_wp2
    go_ret2
    refine ⟨rfl, ?_⟩
    repeat (first | (with_reducible exact Below.refl _ _) | (with_reducible refine bal ?_ _) | (with_reducible refine Below.drew ?_) | (with_reducible refine bdn ?_ _))
  · have hr : rightB op rd rs1 rs2 imm csr = false := hn.resolve_left h0
    have HR := Lib.hid (fun v => (hr ▸ right_same op rd rs1 rs2 imm csr hi) ▸ rright_c op rd rs1 rs2 imm csr hi v)
    have k0 := nb h0
    clear hr hn hi h0
    go_enter Tryd.func23, Tryd.ntmps23
    go_wp2_with fail
    refine (HR.out _).mono ?_
    rintro e w1 ⟨rfl, hb1⟩
    have HB1 := Lib.hid (bthen (bal (Below.refl W.heap.size W) _) hb1)
    clear hb1
    go_wp2
    go_ret2
    exact ⟨rfl, HB1.out⟩
set_option maxHeartbeats 4000000 in
theorem rtext_ok (op rd rs1 rs2 imm csr : Int) (hi : 0 ≤ imm ∧ imm ≤ 4294967295) (ho : ¬ op = 0) (hr : rightB op rd rs1 rs2 imm csr = true) (W : World) :
    Calls Tryd.prog 23 #[.agg #[.int .i64 op, .int .i64 rd, .int .i64 rs1, .int .i64 rs2, .int .u32 imm, .int .i64 csr]] W fun e w' => e = .returned (.tuple #[.string (textS op rd rs1 rs2 imm csr), .bool true]) ∧ Below W.heap.size W w' := by
  obtain ⟨h0, h1, h2, h3, h4, h5⟩ := right_nums hr
  obtain ⟨i, hie⟩ := Int.eq_ofNat_of_zero_le (has_t h0).1
  have hi58 : i < 58 := by have := (has_t h0).2; omega
  have hnv : nameV op = nameAt i := by unfold nameV; rw [if_pos h0, hie]; rfl
  have hsz : (nameV op).size ≤ 100 := by rw [hnv]; exact nm_size i hi58
  have HR : Hid (∀ v, Calls Tryd.prog 51 #[.agg #[.int .i64 op, .int .i64 rd, .int .i64 rs1, .int .i64 rs2, .int .u32 imm, .int .i64 csr]] v fun e w' => e = .returned (.bool true) ∧ Below v.heap.size v w') := Lib.hid (fun v => by
    have h := rright_c op rd rs1 rs2 imm csr hi v
    rw [← right_same op rd rs1 rs2 imm csr hi, hr] at h
    exact h)
  have HF : Hid (∀ v, Calls Tryd.prog 54 #[.int .i64 op] v fun e w' => e = .returned (.int .i64 (formV op)) ∧ v = w') := Lib.hid (fun v => by
    have h := rform_c op v
    rw [← form_same h0] at h
    exact h)
  have hfr := form_rng op
  unfold textS
  clear hr h0
  generalize formV op = f at *
  generalize nameV op = n at *
  subst hie
  rcases (by omega : f = 0 ∨ f = 1 ∨ f = 2 ∨ f = 3 ∨ f = 4 ∨ f = 5 ∨ f = 6 ∨ f = 7 ∨ f = 8 ∨ f = 9) with rfl | rfl | rfl | rfl | rfl | rfl | rfl | rfl | rfl | rfl
  all_goals simp only [textF, Int.reduceEq, if_true, if_false]
  · exact rtext_f0 i hi58 rd rs1 rs2 imm csr n hnv.symm hsz ho h1 h2 h3 h4 hi W HR HF
  · rw [with2_is]
    exact rtext_f1 i hi58 rd rs1 rs2 imm csr n hnv.symm hsz ho h1 h2 h3 h4 hi W HR HF
  · rw [with2_is]
    exact rtext_f2 i hi58 rd rs1 rs2 imm csr n hnv.symm hsz ho h1 h2 h3 h4 hi W HR HF
  · by_cases h15 : (i : Int) ≤ 15
    · rw [if_pos h15, with2_beside]
      exact rtext_f3a i hi58 rd rs1 rs2 imm csr n hnv.symm hsz ho h15 h1 h2 h3 h4 hi W HR HF
    · rw [if_neg h15, with3_is]
      exact rtext_f3b i hi58 rd rs1 rs2 imm csr n hnv.symm hsz ho h15 h1 h2 h3 h4 hi W HR HF
  · rw [with3_is]
    exact rtext_f4 i hi58 rd rs1 rs2 imm csr n hnv.symm hsz ho h1 h2 h3 h4 hi W HR HF
  · rw [with2_beside]
    exact rtext_f5 i hi58 rd rs1 rs2 imm csr n hnv.symm hsz ho h1 h2 h3 h4 hi W HR HF
  · rw [with3_is]
    exact rtext_f6 i hi58 rd rs1 rs2 imm csr n hnv.symm hsz ho h1 h2 h3 h4 hi W HR HF
  · have e : imm = wrap32 imm := by
      simp [numB] at h5
      unfold wrap32; omega
    rw [with3_is]
    rw [congrArg numS e]
    exact rtext_f7 i hi58 rd rs1 rs2 imm csr n hnv.symm hsz ho h1 h2 h3 h4 hi W HR HF
  · rw [with3_is]
    exact rtext_f8 i hi58 rd rs1 rs2 imm csr n hnv.symm hsz ho h1 h2 h3 h4 hi W HR HF
  · have e : imm = wrap32 imm := by
      simp [numB] at h5
      unfold wrap32; omega
    rw [with3_is]
    rw [congrArg numS e]
    exact rtext_f9 i hi58 rd rs1 rs2 imm csr n hnv.symm hsz ho h1 h2 h3 h4 hi W HR HF
end Go.Proofs.YtnooikjkjcflbadDoor

/- Contracts of disasm.Word and of the laws' example of layer 5, and the walks of the laws DisasmNumbers and DisasmTexts: each returns true. Conditions: numbers are of their kinds; the listed variables hold what the program's text lays in them. -/
namespace Go.Proofs.YtnooikjkjcflbadDoor
open Go.RowKit Go.Proofs.YtnooikjkjcflbadDoorW.PrintWords Go.Proofs.YtnooikjkjcflbadDoorW.PrintLast Go.Proofs.YtnooikjkjcflbadDoorW.PrintMore
set_option linter.unusedVariables false
set_option linter.unusedSimpArgs false

theorem word_a : kindV 4263550691 = 6 ∧ rightB 6 0 1 2 4294967292 0 = true ∧ formV 6 = 4 ∧ nameV 6 = ⟨#[98, 110, 101]⟩ := by decide +kernel
theorem num_1 : numS 1 = ⟨#[49]⟩ := by unfold numS numN chN; rw [digN_small _ (by decide)]; rfl
theorem num_2 : numS 2 = ⟨#[50]⟩ := by unfold numS numN chN; rw [digN_small _ (by decide)]; rfl
theorem num_0 : numS 0 = ⟨#[48]⟩ := by unfold numS numN chN; rw [digN_small _ (by decide)]; rfl
theorem num_m4 : numS (-4) = ⟨#[45, 52]⟩ := by unfold numS numN chN; rw [digN_small _ (by decide)]; rfl
theorem num_m120 : numS (-120) = ⟨#[45, 49, 50, 48]⟩ := by
  unfold numS numN chN
  rw [show (-120 : Int).natAbs = 120 from rfl, digN_big _ (by decide), show 120 / 10 = 12 from rfl, digN_big _ (by decide), show 12 / 10 = 1 from rfl, digN_small _ (by decide)]
  rfl
theorem text_a : textS 6 0 1 2 4294967292 0 = ⟨#[98, 110, 101, 32, 120, 49, 44, 32, 120, 50, 44, 32, 45, 52]⟩ := by
  unfold textS
  rw [word_a.2.2.1, word_a.2.2.2]
  simp only [textF, Int.reduceEq, if_true, if_false]
  rw [show wrap32 4294967292 = -4 by unfold wrap32; omega]
  unfold regS
  rw [num_1, num_2, num_m4]
  rfl
theorem ins_a5 : insV 4263550691 6 4 = .agg #[.int .i64 6, .int .i64 0, .int .i64 1, .int .i64 2, .int .u32 4294967292, .int .i64 0] := by
  have h : immV 4263550691 4 = 4294967292 := by decide +kernel
  simp [insV, oRd, oRs1, oRs2, oCsr, h]
theorem ins_z5 : kindV 0 = 0 ∧ formV 0 = 0 ∧ insV 0 0 0 = .agg #[.int .i64 0, .int .i64 0, .int .i64 0, .int .i64 0, .int .u32 0, .int .i64 0] := by
  refine ⟨by decide +kernel, by decide +kernel, ?_⟩
  have h : immV 0 0 = 0 := by decide +kernel
  simp [insV, oRd, oRs1, oRs2, oCsr, h]
theorem word_one (W : World) (hn : NamesIs W) (hf : FormsIs W) : Calls Tryd.prog 25 #[.int .u32 4263550691] W fun e w' => e = .returned (.string ⟨#[98, 110, 101, 32, 120, 49, 44, 32, 120, 50, 44, 32, 45, 52]⟩) ∧ Below W.heap.size W w' := by
  have h1 := dec_c 4263550691 (by decide) W hf
  rw [word_a.1, word_a.2.2.1, ins_a5] at h1
  have H1 := Lib.hid h1
  have H2 := Lib.hid (fun v (hb : Below W.heap.size W v) => text_a ▸ dtext_ok 6 0 1 2 4294967292 0 (by decide) (by decide) word_a.2.1 v (hn.below hb) (hf.below hb))
  clear h1 hn hf
  go_enter Tryd.func25, Tryd.ntmps25
  go_wp2_with fail
  refine H1.out.mono ?_
  rintro e w1 ⟨rfl, hb1⟩
  have HB1 := Lib.hid hb1
  clear hb1
  go_wp2_with fail
  refine (H2.out _ HB1.out).mono ?_
  rintro e w2 ⟨rfl, hb2⟩
  go_wp2
  go_ret
  exact ⟨rfl, bthen HB1.out hb2⟩
theorem word_none (W : World) (hn : NamesIs W) (hf : FormsIs W) : Calls Tryd.prog 25 #[.int .u32 0] W fun e w' => e = .returned (.string ⟨#[46, 119, 111, 114, 100, 32, 48]⟩) ∧ Below W.heap.size W w' := by
  have h1 := dec_c 0 (by decide) W hf
  rw [ins_z5.1, ins_z5.2.1, ins_z5.2.2] at h1
  have H1 := Lib.hid h1
  have H2 := Lib.hid (fun v (hb : Below W.heap.size W v) => dtext_no 0 0 0 0 0 0 (by decide) (.inl rfl) v (hf.below hb))
  have H3 := Lib.hid (fun v => num_0 ▸ number_c 0 ⟨by decide, by decide⟩ v)
  clear h1 hn hf
  go_enter Tryd.func25, Tryd.ntmps25
  go_wp2_with fail
  refine H1.out.mono ?_
  rintro e w1 ⟨rfl, hb1⟩
  have HB1 := Lib.hid hb1
  clear hb1
  go_wp2_with fail
  refine (H2.out _ HB1.out).mono ?_
  rintro e w2 ⟨rfl, hb2⟩
  have HB2 := Lib.hid (bthen HB1.out hb2)
  clear hb2
  go_wp2_with fail
  refine (H3.out _).mono ?_
  rintro e w3 ⟨rfl, hb3⟩
  have HB3 := Lib.hid (bthen HB2.out hb3)
  clear hb3
  go_wp2
  go_ret
  exact ⟨rfl, HB3.out⟩
theorem awake5_c (W : World) (hn : NamesIs W) (hf : FormsIs W) : Calls Tryd.prog 21 #[] W fun e w' => e = .returned (.bool true) ∧ Below W.heap.size W w' := by
  have H1 := Lib.hid (word_one W hn hf)
  have H2 := Lib.hid (fun v (hb : Below W.heap.size W v) => word_none v (hn.below hb) (hf.below hb))
  have H3 := Lib.hid (fun v => num_m120 ▸ number_c (-120) ⟨by decide, by decide⟩ v)
  clear hn hf
  go_enter Tryd.func21, Tryd.ntmps21
  go_wp2_with fail
  refine H1.out.mono ?_
  rintro e w1 ⟨rfl, hb1⟩
  have HB1 := Lib.hid hb1
  clear hb1
  go_wp2_with fail
  refine (H2.out _ HB1.out).mono ?_
  rintro e w2 ⟨rfl, hb2⟩
  have HB2 := Lib.hid (bthen HB1.out hb2)
  clear hb2
  go_wp2_with fail
  refine (H3.out _).mono ?_
  rintro e w3 ⟨rfl, hb3⟩
  have HB3 := Lib.hid (bthen HB2.out hb3)
  clear hb3
  go_wp2
  go_ret
  exact ⟨rfl, HB3.out⟩
theorem dnumbers_w (n : Int) (h : I64 n) (W : World) (hn : NamesIs W) (hf : FormsIs W) : Calls Tryd.prog 4 #[.int .i64 n] W fun e w' => e = .returned (.bool true) ∧ Below W.heap.size W w' := by
  have H1 := Lib.hid (fun v => number_c n h v)
  have H2 := Lib.hid (fun v => rnumber_c n h v)
  have H3 := Lib.hid (fun v => register_c n h v)
  have H4 := Lib.hid (fun v => rregister_c n h v)
  have HA := Lib.hid (fun v (hb : Below W.heap.size W v) => awake5_c v (hn.below hb) (hf.below hb))
  clear h hn hf
  generalize numS n = x at *
  generalize regS n = y at *
  go_enter Tryd.func4, Tryd.ntmps4
  go_wp2_with fail
  refine (H1.out _).mono ?_
  rintro e w1 ⟨rfl, hb1⟩
  have HB1 := Lib.hid hb1
  clear hb1
  go_wp2_with fail
  refine (H2.out _).mono ?_
  rintro e w' ⟨rfl, ⟨nd, rfl⟩⟩
  go_wp2_with fail
  refine (H3.out _).mono ?_
  rintro e w2 ⟨rfl, hb2⟩
  have HB2 := Lib.hid (bthen (bdn HB1.out nd) hb2)
  clear hb2
  go_wp2_with fail
  refine (H4.out _).mono ?_
  rintro e w' ⟨rfl, ⟨ne, rfl⟩⟩
  go_wp2_with fail
  refine (HA.out _ (bdn HB2.out ne)).mono ?_
  rintro e w3 ⟨rfl, hb3⟩
  have HB3 := Lib.hid (bthen (bdn HB2.out ne) hb3)
  clear hb3
  go_wp2
  go_ret
  exact ⟨rfl, HB3.out⟩
theorem dtexts_w (op rd rs1 rs2 imm csr : Int) (hi : 0 ≤ imm ∧ imm ≤ 4294967295) (W : World) (hn : NamesIs W) (hf : FormsIs W) :
    Calls Tryd.prog 5 #[.agg #[.int .i64 op, .int .i64 rd, .int .i64 rs1, .int .i64 rs2, .int .u32 imm, .int .i64 csr]] W fun e w' => e = .returned (.bool true) ∧ Below W.heap.size W w' := by
  have HA := Lib.hid (fun v (hb : Below W.heap.size W v) => awake5_c v (hn.below hb) (hf.below hb))
  have hbw := bal (Below.refl W.heap.size W) (.cells #[.int .i64 op, .int .i64 rd, .int .i64 rs1, .int .i64 rs2, .int .u32 imm, .int .i64 csr] 53)
  have key : ∃ (s : ByteArray) (E : Int) (ok : Bool), ((E = 0 ∧ ok = true) ∨ (E = 9 ∧ ok = false)) ∧
      (∀ v, Below W.heap.size W v → Calls Tryd.prog 22 #[.agg #[.int .i64 op, .int .i64 rd, .int .i64 rs1, .int .i64 rs2, .int .u32 imm, .int .i64 csr]] v fun e w' => e = .returned (.tuple #[.string s, .int .i64 E]) ∧ Below v.heap.size v w') ∧
      (∀ v, Calls Tryd.prog 23 #[.agg #[.int .i64 op, .int .i64 rd, .int .i64 rs1, .int .i64 rs2, .int .u32 imm, .int .i64 csr]] v fun e w' => e = .returned (.tuple #[.string s, .bool ok]) ∧ Below v.heap.size v w') := by
    by_cases h0 : op = 0
    · exact ⟨_, 9, false, .inr ⟨rfl, rfl⟩, fun v hb => dtext_no op rd rs1 rs2 imm csr hi (.inl h0) v (hf.below hb), fun v => rtext_no op rd rs1 rs2 imm csr hi (.inl h0) v⟩
    · rcases Bool.eq_false_or_eq_true (rightB op rd rs1 rs2 imm csr) with hr | hr
      · exact ⟨_, 0, true, .inl ⟨rfl, rfl⟩, fun v hb => dtext_ok op rd rs1 rs2 imm csr hi h0 hr v (hn.below hb) (hf.below hb), fun v => rtext_ok op rd rs1 rs2 imm csr hi h0 hr v⟩
      · exact ⟨_, 9, false, .inr ⟨rfl, rfl⟩, fun v hb => dtext_no op rd rs1 rs2 imm csr hi (.inr hr) v (hf.below hb), fun v => rtext_no op rd rs1 rs2 imm csr hi (.inr hr) v⟩
  obtain ⟨s, E, ok, hE, hT, hX⟩ := key
  have HT := Lib.hid hT
  have HX := Lib.hid hX
  have HBW := Lib.hid hbw
  clear hT hX hbw hn hf hi
  go_enter Tryd.func5, Tryd.ntmps5
  go_wp2_with fail
  refine (HT.out _ HBW.out).mono ?_
  rintro e w1 ⟨rfl, hb1⟩
  have hc := (bcf hb1).1
  have HB1 := Lib.hid (bthen HBW.out hb1)
  have z1 : W.heap.size < w1.heap.size := by have := hb1.size; simp at this; omega
  have z2 : ¬ W.heap.size = w1.heap.size := by omega
  clear hb1
  go_wp2_with fail
  refine (HX.out _).mono ?_
  rintro e w2 ⟨rfl, hb2⟩
  have HB2 := Lib.hid (bthen HB1.out hb2)
  clear hb2 hc z1 z2
  rcases hE with ⟨rfl, rfl⟩ | ⟨rfl, rfl⟩
  all_goals
    go_wp2_with fail
    refine (HA.out _ HB2.out).mono ?_
    rintro e w3 ⟨rfl, hb3⟩
    have HB3 := Lib.hid (bthen HB2.out hb3)
    clear hb3
    go_wp2
    go_ret
    exact ⟨rfl, HB3.out⟩
end Go.Proofs.YtnooikjkjcflbadDoor

/- Contracts of disasm.Word and of the reference's Word: a word's text. Conditions: a word is a word; the listed variables hold what the program's text lays in them. -/
namespace Go.Proofs.YtnooikjkjcflbadDoor
open Go.RowKit Go.Proofs.YtnooikjkjcflbadDoorW.PrintWords Go.Proofs.YtnooikjkjcflbadDoorW.PrintLast Go.Proofs.YtnooikjkjcflbadDoorW.PrintMore
set_option linter.unusedVariables false
set_option linter.unusedSimpArgs false

theorem immv_rng (w : Int) (h : 0 ≤ w ∧ w ≤ 4294967295) (f : Int) : 0 ≤ immV w f ∧ immV w f ≤ 4294967295 := by
  have a := immJ_rng w h
  have b := immB_rng w h
  have c := immS_rng w h
  unfold immV sgx
  simp only [Nat.reduceSub, Int.reducePow]
  generalize immJ w = x at *
  generalize immB w = y at *
  generalize immS w = z at *
  repeat' split
  all_goals omega
/-- Has a word's instruction a text? -/
def txtB (w : Int) : Bool := kindV w != 0 && rightB (kindV w) (oRd (formV (kindV w)) (w / 128 % 32)) (oRs1 (formV (kindV w)) (w / 32768 % 32)) (oRs2 (formV (kindV w)) (w / 1048576 % 32)) (immV w (formV (kindV w))) (oCsr (formV (kindV w)) (w / 1048576))
def txtS (w : Int) : ByteArray := textS (kindV w) (oRd (formV (kindV w)) (w / 128 % 32)) (oRs1 (formV (kindV w)) (w / 32768 % 32)) (oRs2 (formV (kindV w)) (w / 1048576 % 32)) (immV w (formV (kindV w))) (oCsr (formV (kindV w)) (w / 1048576))
def dotW : ByteArray := ⟨#[46, 119, 111, 114, 100, 32]⟩
/-- A word's text. -/
def wordS (w : Int) : ByteArray := if txtB w = true then txtS w else dotW ++ numS w
set_option maxHeartbeats 2000000 in
theorem word_c (w : Int) (h : 0 ≤ w ∧ w ≤ 4294967295) (W : World) (hn : NamesIs W) (hf : FormsIs W) : Calls Tryd.prog 25 #[.int .u32 w] W fun e w' => e = .returned (.string (wordS w)) ∧ Below W.heap.size W w' := by
  have h1 := dec_c w h W hf
  have hi := immv_rng w h (formV (kindV w))
  unfold insV at h1
  unfold wordS
  rcases Bool.eq_false_or_eq_true (txtB w) with hb | hb
  · rw [if_pos hb]
    unfold txtB at hb
    unfold txtS
    simp only [Bool.and_eq_true, bne_iff_ne] at hb
    have H2 := Lib.hid (fun v (hv : Below W.heap.size W v) => dtext_ok _ _ _ _ _ _ hi hb.1 hb.2 v (hn.below hv) (hf.below hv))
    clear hb hi h hn hf
    generalize textS (kindV w) (oRd (formV (kindV w)) (w / 128 % 32)) (oRs1 (formV (kindV w)) (w / 32768 % 32)) (oRs2 (formV (kindV w)) (w / 1048576 % 32)) (immV w (formV (kindV w))) (oCsr (formV (kindV w)) (w / 1048576)) = s at *
    generalize formV (kindV w) = f at *
    generalize kindV w = op at *
    generalize oRd f (w / 128 % 32) = x1 at *
    generalize oRs1 f (w / 32768 % 32) = x2 at *
    generalize oRs2 f (w / 1048576 % 32) = x3 at *
    generalize immV w f = x4 at *
    generalize oCsr f (w / 1048576) = x5 at *
    have H1 := Lib.hid h1
    clear h1
    go_enter Tryd.func25, Tryd.ntmps25
    go_wp2_with fail
    refine H1.out.mono ?_
    rintro e w1 ⟨rfl, hb1⟩
    have HB1 := Lib.hid hb1
    clear hb1
    go_wp2_with fail
    refine (H2.out _ HB1.out).mono ?_
    rintro e w2 ⟨rfl, hb2⟩
    go_wp2
    go_ret
    exact ⟨rfl, bthen HB1.out hb2⟩
  · rw [if_neg (by rw [hb]; decide)]
    unfold txtB at hb
    simp only [Bool.and_eq_false_iff, bne_eq_false_iff_eq] at hb
    have H2 := Lib.hid (fun v (hv : Below W.heap.size W v) => dtext_no _ _ _ _ _ _ hi hb v (hf.below hv))
    have H3 := Lib.hid (fun v => number_c w ⟨by omega, by omega⟩ v)
    have hs := numS_size w ⟨by omega, by omega⟩
    have wj : wrap64 w = w := by unfold wrap64; omega
    clear hb hi h hn hf
    unfold dotW
    generalize numS w = s at *
    have s1 : 6 + s.size ≤ 9223372036854775807 := by omega
    generalize formV (kindV w) = f at *
    generalize kindV w = op at *
    generalize oRd f (w / 128 % 32) = x1 at *
    generalize oRs1 f (w / 32768 % 32) = x2 at *
    generalize oRs2 f (w / 1048576 % 32) = x3 at *
    generalize immV w f = x4 at *
    generalize oCsr f (w / 1048576) = x5 at *
    have H1 := Lib.hid h1
    clear h1
    go_enter Tryd.func25, Tryd.ntmps25
    go_wp2_with fail
    refine H1.out.mono ?_
    rintro e w1 ⟨rfl, hb1⟩
    have HB1 := Lib.hid hb1
    clear hb1
    go_wp2_with fail
    refine (H2.out _ HB1.out).mono ?_
    rintro e w2 ⟨rfl, hb2⟩
    have HB2 := Lib.hid (bthen HB1.out hb2)
    clear hb2
    go_wp2_with fail
    refine (H3.out _).mono ?_
    rintro e w3 ⟨rfl, hb3⟩
    have HB3 := Lib.hid (bthen HB2.out hb3)
    clear hb3
    go_wp2
    go_ret
    exact ⟨rfl, HB3.out⟩
set_option maxHeartbeats 2000000 in
theorem rword_c (w : Int) (h : 0 ≤ w ∧ w ≤ 4294967295) (W : World) : Calls Tryd.prog 24 #[.int .u32 w] W fun e w' => e = .returned (.string (wordS w)) ∧ Below W.heap.size W w' := by
  have h1 := rdec_c w h W
  rw [← dform_same (kindV w) (kind_rng w)] at h1
  have hi := immv_rng w h (formV (kindV w))
  unfold insV at h1
  unfold wordS
  rcases Bool.eq_false_or_eq_true (txtB w) with hb | hb
  · rw [if_pos hb]
    unfold txtB at hb
    unfold txtS
    simp only [Bool.and_eq_true, bne_iff_ne] at hb
    have H2 := Lib.hid (fun v => rtext_ok _ _ _ _ _ _ hi hb.1 hb.2 v)
    clear hb hi h
    generalize textS (kindV w) (oRd (formV (kindV w)) (w / 128 % 32)) (oRs1 (formV (kindV w)) (w / 32768 % 32)) (oRs2 (formV (kindV w)) (w / 1048576 % 32)) (immV w (formV (kindV w))) (oCsr (formV (kindV w)) (w / 1048576)) = s at *
    generalize formV (kindV w) = f at *
    generalize kindV w = op at *
    generalize oRd f (w / 128 % 32) = x1 at *
    generalize oRs1 f (w / 32768 % 32) = x2 at *
    generalize oRs2 f (w / 1048576 % 32) = x3 at *
    generalize immV w f = x4 at *
    generalize oCsr f (w / 1048576) = x5 at *
    have H1 := Lib.hid h1
    clear h1
    go_enter Tryd.func24, Tryd.ntmps24
    go_wp2_with fail
    refine H1.out.mono ?_
    rintro e w1 ⟨rfl, hb1⟩
    have HB1 := Lib.hid hb1
    clear hb1
    go_wp2_with fail
    refine (H2.out _).mono ?_
    rintro e w2 ⟨rfl, hb2⟩
    go_wp2
    go_ret
    exact ⟨rfl, bthen HB1.out hb2⟩
  · rw [if_neg (by rw [hb]; decide)]
    unfold txtB at hb
    simp only [Bool.and_eq_false_iff, bne_eq_false_iff_eq] at hb
    have H2 := Lib.hid (fun v => rtext_no _ _ _ _ _ _ hi hb v)
    have H3 := Lib.hid (fun v => rnumber_c w ⟨by omega, by omega⟩ v)
    have hs := numS_size w ⟨by omega, by omega⟩
    have wj : wrap64 w = w := by unfold wrap64; omega
    clear hb hi h
    unfold dotW
    generalize numS w = s at *
    have s1 : 6 + s.size ≤ 9223372036854775807 := by omega
    generalize formV (kindV w) = f at *
    generalize kindV w = op at *
    generalize oRd f (w / 128 % 32) = x1 at *
    generalize oRs1 f (w / 32768 % 32) = x2 at *
    generalize oRs2 f (w / 1048576 % 32) = x3 at *
    generalize immV w f = x4 at *
    generalize oCsr f (w / 1048576) = x5 at *
    have H1 := Lib.hid h1
    clear h1
    go_enter Tryd.func24, Tryd.ntmps24
    go_wp2_with fail
    refine H1.out.mono ?_
    rintro e w1 ⟨rfl, hb1⟩
    have HB1 := Lib.hid hb1
    clear hb1
    go_wp2_with fail
    refine (H2.out _).mono ?_
    rintro e w2 ⟨rfl, hb2⟩
    have HB2 := Lib.hid (bthen HB1.out hb2)
    clear hb2
    go_wp2_with fail
    refine (H3.out _).mono ?_
    rintro e w' ⟨rfl, ⟨nd, rfl⟩⟩
    go_wp2
    go_ret
    exact ⟨rfl, bdn HB2.out nd⟩
end Go.Proofs.YtnooikjkjcflbadDoor

/- Contract of disasm.Lines, and the walk of the law DisasmWords: it returns true. Conditions: words are words; the listed variables hold what the program's text lays in them. -/
namespace Go.Proofs.YtnooikjkjcflbadDoor
open Go.RowKit Go.Proofs.YtnooikjkjcflbadDoorW.PrintWords Go.Proofs.YtnooikjkjcflbadDoorW.PrintLast Go.Proofs.YtnooikjkjcflbadDoorW.PrintMore
set_option linter.unusedVariables false
set_option linter.unusedSimpArgs false

theorem infoB5 : (Tryd.prog.info? 5).map (fun i => (i.zero, i.size, i.bytes)) = some (some (.int .u8 0), 1, 1) := by kernel_rfl
theorem with2_size (n a b : ByteArray) (hn : n.size ≤ 100) (ha : a.size ≤ 100) (hb : b.size ≤ 100) : (with2 n a b).size ≤ 500 := by
  unfold with2
  rw [ByteArray.size_append, ByteArray.size_append, ByteArray.size_append, ByteArray.size_append, ByteArray.size_append]
  show n.size + (1 + a.size) + 1 + (1 + b.size) ≤ 500
  omega
theorem with3_size (n a b c : ByteArray) (hn : n.size ≤ 100) (ha : a.size ≤ 100) (hb : b.size ≤ 100) (hc : c.size ≤ 100) : (with3 n a b c).size ≤ 500 := by
  unfold with3
  rw [ByteArray.size_append, ByteArray.size_append, ByteArray.size_append, ByteArray.size_append, ByteArray.size_append, ByteArray.size_append, ByteArray.size_append, ByteArray.size_append]
  show n.size + (1 + a.size) + 1 + (1 + b.size) + 1 + (1 + c.size) ≤ 500
  omega
theorem textF_size (f op : Int) (n : ByteArray) (rd rs1 rs2 imm csr : Int) (hn : n.size ≤ 100) (h1 : I64 rd) (h2 : I64 rs1) (h3 : I64 rs2) (h4 : I64 csr) (hi : 0 ≤ imm ∧ imm ≤ 4294967295) : (textF f op n rd rs1 rs2 imm csr).size ≤ 500 := by
  have a1 : (regS rd).size ≤ 100 := by have := regS_size rd h1; omega
  have a2 : (regS rs1).size ≤ 100 := by have := regS_size rs1 h2; omega
  have a3 : (regS rs2).size ≤ 100 := by have := regS_size rs2 h3; omega
  have a4 : (numS csr).size ≤ 100 := by have := numS_size csr h4; omega
  have a5 : (numS imm).size ≤ 100 := by have := numS_size imm ⟨by omega, by omega⟩; omega
  have a6 : (numS (imm / 4096)).size ≤ 100 := by have := numS_size (imm / 4096) ⟨by omega, by omega⟩; omega
  have a7 : (numS (wrap32 imm)).size ≤ 100 := by have := numS_size _ (w32_i64 imm hi); omega
  have a8 := besideS_size imm rs1 hi h2
  unfold textF
  repeat' split
  all_goals first | (exact with2_size _ _ _ (by assumption) (by assumption) (by assumption)) | (exact with3_size _ _ _ _ (by assumption) (by assumption) (by assumption) (by assumption)) | omega
theorem wordS_size (w : Int) (h : 0 ≤ w ∧ w ≤ 4294967295) : (wordS w).size ≤ 500 := by
  unfold wordS
  by_cases hb : txtB w = true
  · rw [if_pos hb]
    unfold txtB at hb
    simp only [Bool.and_eq_true] at hb
    obtain ⟨h0, h1, h2, h3, h4, _⟩ := right_nums hb.2
    unfold txtS textS
    refine textF_size _ _ _ _ _ _ _ _ ?_ h1 h2 h3 h4 (immv_rng w h _)
    unfold nameV
    rw [if_pos h0]
    exact nm_size _ (by have := has_t h0; omega)
  · rw [if_neg hb]
    unfold dotW
    rw [ByteArray.size_append]
    have := numS_size w ⟨by omega, by omega⟩
    show 6 + _ ≤ 500
    omega
def linesL (ws : List Int) : List Int := ws.flatMap fun x => bytesOf (wordS x) ++ [10]
theorem lines_take (ws : List Int) (k : Nat) (h : k < ws.length) : linesL (ws.take (k + 1)) = (linesL (ws.take k) ++ bytesOf (wordS (rd ws (k : Int)))) ++ [10] := by
  unfold linesL
  rw [List.take_succ_eq_append_getElem h, List.flatMap_append]
  simp [rd, h]
theorem lines_len (ws : List Int) (hw : ∀ x ∈ ws, 0 ≤ x ∧ x ≤ 4294967295) : (linesL ws).length ≤ 501 * ws.length := by
  induction ws with
  | nil => simp [linesL]
  | cons x l ih =>
    have h1 := ih (fun y hy => hw y (by simp [hy]))
    have h2 := wordS_size x (hw x (by simp))
    unfold linesL at *
    rw [List.flatMap_cons, List.length_append, List.length_append, bytesOf_length, List.length_cons, List.length_cons, List.length_nil]
    omega
theorem strOf_append (a b : List Int) : strOfNums (a ++ b) = strOfNums a ++ strOfNums b := by
  apply ByteArray.ext
  simp [strOfNums]
theorem strOf_bytesOf (y : ByteArray) : strOfNums (bytesOf y) = y := by
  apply ByteArray.ext
  simp only [strOfNums, bytesOf, List.map_map]
  have : (fun n : Int => UInt8.ofNat n.toNat) ∘ (fun b : UInt8 => (b.toNat : Int)) = id := by
    funext b
    simp
  rw [this, List.map_id]
theorem strOf_size (l : List Int) : (strOfNums l).size = l.length := by simp [strOfNums, ByteArray.size]
theorem lines_str (ws : List Int) (k : Nat) (h : k < ws.length) : strOfNums (linesL (ws.take (k + 1))) = (strOfNums (linesL (ws.take k)) ++ wordS (rd ws (k : Int))) ++ (⟨#[10]⟩ : ByteArray) := by
  rw [lines_take ws k h, strOf_append, strOf_append, strOf_bytesOf]
  rfl
set_option maxHeartbeats 4000000 in
set_option maxRecDepth 100000 in
theorem lines_c (A : Option Addr) (c : Nat) (ws : List Int) (hl : ws.length ≤ 500) (w : World) (hC : (Kd.int .u32).C w A ws.length ws) (hi : ∀ x ∈ ws, 0 ≤ x ∧ x ≤ 4294967295) (hn : NamesIs w) (hf : FormsIs w) :
    Calls Tryd.prog 26 #[.slice A ws.length c] w fun e w' => e = .returned (.string (strOfNums (linesL ws))) ∧ Below w.heap.size w w' := by
  have HW := Lib.hid (fun x (hx : 0 ≤ x ∧ x ≤ 4294967295) v (hb : Below w.heap.size w v) => word_c x hx v (hn.below hb) (hf.below hb))
  have HC := Lib.hid hC
  have HI := Lib.hid hi
  clear hC hi hn hf
  go_enter Tryd.func26, Tryd.ntmps26
  go_wp2
  go_loopw [3, 8] (fun v i wr => ∃ k : Nat, k ≤ ws.length ∧ i = .int .i64 k ∧ Hid (Kd.R (Kd.int .u8) 5 wr w.heap.size (fun _ => True) v (linesL (ws.take k))) ∧ Hid (Below w.heap.size w wr)) (fun _ i _ => ws.length - (intOf i).toNat)
  case atStart => exact ⟨0, Nat.zero_le _, rfl, Lib.hid (Kd.R_nil _ _ _ _ _), Lib.hid (Below.refl _ _)⟩
  case round =>
    obtain ⟨k, hk, rfl, HR, HB⟩ := hrel
    by_cases hlt : k < ws.length
    · obtain ⟨ad, rfl, c0⟩ := Kd.at_int (Kd.C_below HC.out HB.out) (k : Int) (by omega) (by omega)
      have hx := HI.out (rd ws (k : Int)) (by simp [rd, hlt])
      have HT := Lib.hid (lines_take ws k hlt)
      have hln := lines_len (ws.take k) (fun x hx => HI.out x (List.mem_of_mem_take hx))
      have hws := wordS_size _ hx
      have HL := Lib.hid (show (linesL (ws.take k)).length ≤ 250500 by rw [List.length_take] at hln; omega)
      have HE := Lib.hid (HW.out _ hx)
      simp only [Int.toNat_natCast] at c0
      clear hln hx
      generalize rd ws (k : Int) = y at *
      generalize wordS y = s at *
      generalize linesL (ws.take k) = L at *
      have HZ := Lib.hid hws
      clear hws
      go_wp2_with fail
      refine (HE.out _ HB.out).mono ?_
      rintro e w1 ⟨rfl, hb1⟩
      have HB1 := Lib.hid (bthen HB.out hb1)
      have HO1 := Lib.hid (Kd.own_of_R (Kd.R_below HR.out hb1))
      clear hb1
      go_wp2_with (at_builtin; refine print_append_str (w0 := w) w.heap.size rfl _ _ 84 9 5 rfl Tryd.underlying84 Tryd.underlying9 infoB5 u3 L s rfl rfl HO1.out HB1.out HB1.out.size (by have := HL.out; have := HZ.out; omega) ?_)
      intro v1 w2 hown2 hb2 _
      have hown3 : w2.ownsRow w.heap.size 5 1 v1 (L ++ bytesOf s).length (encs (Value.int .u8) (L ++ bytesOf s)) := by
        rw [List.length_append]
        exact hown2
      have HR2 := Lib.hid (Kd.R_of_own (enc := Value.int .u8) (h1 := fun _ => rfl) (ok := fun _ => True) hown3 (fun _ _ => trivial))
      clear hown3
      have HB2 := Lib.hid hb2
      clear hown2 hb2
      go_wp2_with (at_builtin; refine Kd.R_append (Kd.int .u8) (w0 := w) w.heap.size rfl _ _ 84 5 (.int .u8 0) 1 rfl Tryd.underlying84 infoB5 rfl (by decide) (by decide) v1 (L ++ bytesOf s) 10 [.int .u8 10] (fun _ => True) (fun _ => False) rfl rfl (by exact rfl) (fun _ hk => hk.elim) (fun _ _ => trivial) HR2.out HB2.out HB2.out.size (by rw [List.length_append, bytesOf_length]; have := HL.out; have := HZ.out; omega) ?_)
      intro v2 w3 ho3 hb3 _ _
      have HR3 := Lib.hid ho3
      have HB3 := Lib.hid hb3
      clear ho3 hb3
      go_wp2
      go_roundw
      case rel => exact ⟨k + 1, by omega, by go_num, Lib.hid (by rw [HT.out, List.append_assoc]; exact HR3.out), HB3⟩
      case measure => simp [intOf]; omega
    · obtain rfl : k = ws.length := by omega
      have hR := HR.out
      rw [List.take_length] at hR
      have hcv := own_string (P := Tryd.prog) Tryd.underlying84 Tryd.underlying5 Tryd.underlying9 (Kd.own_of_R hR)
      clear hR HR
      go_wp2
      go_ret
      exact ⟨rfl, HB.out⟩
theorem dwords_long (A : Option Addr) (n c : Nat) (hl : 500 < (n : Int)) (W : World) (hn : NamesIs W) (hf : FormsIs W) :
    Calls Tryd.prog 7 #[.slice A n c] W fun e w' => e = .returned (.bool true) ∧ Below W.heap.size W w' := by
  have HAW := Lib.hid (awake5_c W hn hf)
  clear hn hf
  go_enter Tryd.func7, Tryd.ntmps7
  go_wp2_with fail
  refine HAW.out.mono ?_
  rintro e w1 ⟨rfl, hb1⟩
  go_wp2
  go_ret
  exact ⟨rfl, hb1⟩
set_option maxHeartbeats 8000000 in
set_option maxRecDepth 100000 in
theorem dwords5_w (A : Option Addr) (n c : Nat) (ws : List Int) (hnn : ws.length = n) (W : World) (hC : (Kd.int .u32).C W A n ws) (hi : ∀ x ∈ ws, 0 ≤ x ∧ x ≤ 4294967295) (hn : NamesIs W) (hf : FormsIs W) :
    Calls Tryd.prog 7 #[.slice A n c] W fun e w' => e = .returned (.bool true) ∧ Below W.heap.size W w' := by
  subst hnn
  by_cases hl : ws.length ≤ 500
  case neg => exact dwords_long A _ c (by omega) W hn hf
  have HL := Lib.hid (fun v (hb : Below W.heap.size W v) => lines_c A c ws hl v (Kd.C_below hC hb) hi (hn.below hb) (hf.below hb))
  have HW := Lib.hid (fun x (hx : 0 ≤ x ∧ x ≤ 4294967295) v (hb : Below W.heap.size W v) => word_c x hx v (hn.below hb) (hf.below hb))
  have HX := Lib.hid (fun x (hx : 0 ≤ x ∧ x ≤ 4294967295) v => rword_c x hx v)
  have HAW := Lib.hid (fun v (hb : Below W.heap.size W v) => awake5_c v (hn.below hb) (hf.below hb))
  have HC := Lib.hid hC
  have HI := Lib.hid hi
  have hl2 : ¬ (500 : Int) < (ws.length : Int) := by omega
  clear hn hf hC hi
  go_enter Tryd.func7, Tryd.ntmps7
  go_wp2
  go_loopw [3, 4] (fun v i wr => ∃ (k : Nat) (S : ByteArray), k ≤ ws.length ∧ i = .int .i64 k ∧ v = .string S ∧ Hid (S = strOfNums (linesL (ws.take k))) ∧ Hid (Below W.heap.size W wr)) (fun _ i _ => ws.length - (intOf i).toNat)
  case atStart => exact ⟨0, _, Nat.zero_le _, rfl, rfl, Lib.hid rfl, Lib.hid (Below.refl _ _)⟩
  case round =>
    obtain ⟨k, S, hk, rfl, rfl, HS, HB⟩ := hrel
    by_cases hlt : k < ws.length
    · obtain ⟨ad, rfl, c0⟩ := Kd.at_int (Kd.C_below HC.out HB.out) (k : Int) (by omega) (by omega)
      have hx := HI.out (rd ws (k : Int)) (by simp [rd, hlt])
      have HT := Lib.hid (lines_str ws k hlt)
      have hln := lines_len (ws.take k) (fun x hx => HI.out x (List.mem_of_mem_take hx))
      have hws := wordS_size _ hx
      have hss : S.size ≤ 250500 := by
        rw [HS.out, strOf_size]
        rw [List.length_take] at hln
        omega
      have HE := Lib.hid (HW.out _ hx)
      have HF := Lib.hid (HX.out _ hx)
      simp only [Int.toNat_natCast] at c0
      clear hln hx
      generalize rd ws (k : Int) = y at *
      generalize wordS y = s at *
      have s1 : S.size + s.size ≤ 9223372036854775807 := by omega
      have s2 : S.size + s.size + 1 ≤ 9223372036854775807 := by omega
      have s3 : (S ++ s).size + 1 ≤ 9223372036854775807 := by rw [ByteArray.size_append]; exact s2
      clear hws hss
      have k1 : (k : Int) < (ws.length : Int) := by omega
      have k2 : (0 : Int) ≤ (k : Int) := by omega
      go_wp2_with fail
      refine (HF.out _).mono ?_
      rintro e w1 ⟨rfl, hb1⟩
      have HB1 := Lib.hid (bthen HB.out hb1)
      have d0 := pw_cell_below hb1 c0
      clear hb1
      go_wp2_with fail
      refine (HE.out _ HB1.out).mono ?_
      rintro e w2 ⟨rfl, hb2⟩
      have HB2 := Lib.hid (bthen HB1.out hb2)
      clear hb2
      go_wp2
      go_roundw
      case rel => exact ⟨k + 1, _, by omega, by go_num, rfl, Lib.hid (by rw [HT.out, ← HS.out]), HB2⟩
      case measure => simp [intOf]; omega
    · obtain rfl : k = ws.length := by omega
      have hS := HS.out
      rw [List.take_length] at hS
      have HLL := Lib.hid (HL.out _ HB.out)
      rw [← hS] at HLL
      clear hS HS HL
      go_wp2_with fail
      refine HLL.out.mono ?_
      rintro e w1 ⟨rfl, hb1⟩
      have HB1 := Lib.hid (bthen HB.out hb1)
      clear hb1
      go_wp2_with fail
      refine (HAW.out _ HB1.out).mono ?_
      rintro e w2 ⟨rfl, hb2⟩
      have HB2 := Lib.hid (bthen HB1.out hb2)
      clear hb2
      go_wp2
      go_ret
      exact ⟨rfl, HB2.out⟩
end Go.Proofs.YtnooikjkjcflbadDoor
