/- Contracts of disasm.Text and of the reference's Text: one text, or none. Conditions: numbers are of their kinds; the listed variables hold what the program's text lays in them. -/
import Derived.Test.YtnooikjkjcflbadDoorUe
import Derived.Test.YtnooikjkjcflbadDoorUf
import Derived.Test.YtnooikjkjcflbadDoorUg
import Derived.Test.YtnooikjkjcflbadDoorUh
import Derived.Test.YtnooikjkjcflbadDoorIb
namespace Go.Proofs.YtnooikjkjcflbadDoor
open Go.RowKit Go.Proofs.YtnooikjkjcflbadDoorW.PrintWords Go.Proofs.YtnooikjkjcflbadDoorW.PrintLast Go.Proofs.YtnooikjkjcflbadDoorW.PrintMore Go.Proofs.YtnooikjkjcflbadDoor.PDisasmWords
set_option linter.unusedVariables false
set_option linter.unusedSimpArgs false

theorem cs_split : (⟨#[44, 32]⟩ : ByteArray) = cm ++ sp := rfl
theorem with2_is (n a b : ByteArray) : with2 n a b = (((n ++ (⟨#[32]⟩ : ByteArray)) ++ a) ++ (⟨#[44, 32]⟩ : ByteArray)) ++ b := by
  rw [cs_split, show (⟨#[32]⟩ : ByteArray) = sp from rfl]
  unfold with2
  simp only [ByteArray.append_assoc]
theorem with3_is (n a b c : ByteArray) : with3 n a b c = (((((n ++ (⟨#[32]⟩ : ByteArray)) ++ a) ++ (⟨#[44, 32]⟩ : ByteArray)) ++ b) ++ (⟨#[44, 32]⟩ : ByteArray)) ++ c := by
  rw [cs_split, show (⟨#[32]⟩ : ByteArray) = sp from rfl]
  unfold with3
  simp only [ByteArray.append_assoc]
theorem with2_beside (n a : ByteArray) (imm rs1 : Int) : with2 n a (besideS imm rs1) = ((((((n ++ (⟨#[32]⟩ : ByteArray)) ++ a) ++ (⟨#[44, 32]⟩ : ByteArray)) ++ numS (wrap32 imm)) ++ (⟨#[40]⟩ : ByteArray)) ++ regS rs1) ++ (⟨#[41]⟩ : ByteArray) := by
  rw [cs_split, show (⟨#[32]⟩ : ByteArray) = sp from rfl]
  unfold with2 besideS op1 cl1
  simp only [ByteArray.append_assoc]
/-- An instruction's text, of a right one. -/
def textF (f op : Int) (n : ByteArray) (rd rs1 rs2 imm csr : Int) : ByteArray :=
  if f = 0 then n
  else if f = 1 then with2 n (regS rd) (numS (imm / 4096))
  else if f = 2 then with2 n (regS rd) (numS (wrap32 imm))
  else if f = 3 then (if op ≤ 15 then with2 n (regS rd) (besideS imm rs1) else with3 n (regS rd) (regS rs1) (numS (wrap32 imm)))
  else if f = 4 then with3 n (regS rs1) (regS rs2) (numS (wrap32 imm))
  else if f = 5 then with2 n (regS rs2) (besideS imm rs1)
  else if f = 6 then with3 n (regS rd) (regS rs1) (regS rs2)
  else if f = 7 then with3 n (regS rd) (regS rs1) (numS imm)
  else if f = 8 then with3 n (regS rd) (numS csr) (regS rs1)
  else with3 n (regS rd) (numS csr) (numS imm)
def textS (op rd rs1 rs2 imm csr : Int) : ByteArray := textF (formV op) op (nameV op) rd rs1 rs2 imm csr
theorem nm_size : ∀ i, i < 58 → (nameAt i).size ≤ 100 := by decide +kernel
theorem loads_dec : ∀ i : Nat, i < 58 → formsAt i = 3 → i = 4 ∨ (¬ i = 4 ∧ ((i ≤ 15 ∧ ∃ l, inst_Loads.f 9 (i : Int) = some l ∧ 0 < l) ∨ (15 < i ∧ inst_Loads.f 9 (i : Int) = some 0))) := by
  intro i hi hf
  have h : (formsAt i = 3 → i = 4 ∨ (¬ i = 4 ∧ ((i ≤ 15 ∧ (match inst_Loads.f 9 (i : Int) with | some l => decide (0 < l) | none => false) = true) ∨ (15 < i ∧ inst_Loads.f 9 (i : Int) = some 0)))) := by
    revert i
    decide +kernel
  rcases h hf with h | ⟨h4, h | h⟩
  · exact .inl h
  · refine .inr ⟨h4, .inl ⟨h.1, ?_⟩⟩
    cases hl : inst_Loads.f 9 (i : Int) with
    | none => rw [hl] at h; exact absurd h.2 (by decide)
    | some l => rw [hl] at h; exact ⟨l, rfl, by simpa using h.2⟩
  · exact .inr ⟨h4, .inr h⟩
theorem right_nums {op rd rs1 rs2 imm csr : Int} (h : rightB op rd rs1 rs2 imm csr = true) : hasB op = true ∧ I64 rd ∧ I64 rs1 ∧ I64 rs2 ∧ I64 csr ∧ numB (formV op) imm = true := by
  unfold rightB onlyB regB at h
  simp only [Bool.and_eq_true, decide_eq_true_eq, beq_iff_eq] at h
  obtain ⟨⟨⟨⟨⟨⟨⟨h0, h1⟩, h2⟩, h3⟩, h4⟩, h5⟩, h6⟩, h7⟩ := h
  exact ⟨h0, ⟨by omega, by omega⟩, ⟨by omega, by omega⟩, ⟨by omega, by omega⟩, ⟨by omega, by omega⟩, h5⟩
set_option maxHeartbeats 4000000 in
theorem dtext_ok (op rd rs1 rs2 imm csr : Int) (hi : 0 ≤ imm ∧ imm ≤ 4294967295) (ho : ¬ op = 0) (hr : rightB op rd rs1 rs2 imm csr = true) (W : World) (hn : NamesIs W) (hf : FormsIs W) :
    Calls Tryd.prog 22 #[.agg #[.int .i64 op, .int .i64 rd, .int .i64 rs1, .int .i64 rs2, .int .u32 imm, .int .i64 csr]] W fun e w' => e = .returned (.tuple #[.string (textS op rd rs1 rs2 imm csr), .int .i64 0]) ∧ Below W.heap.size W w' := by
  obtain ⟨h0, h1, h2, h3, h4, _⟩ := right_nums hr
  obtain ⟨i, hie⟩ := Int.eq_ofNat_of_zero_le (has_t h0).1
  have hi58 : i < 58 := by have := (has_t h0).2; omega
  have he : hasE op = 0 := by simp [hasE, h0]
  have hnv : nameV op = nameAt i := by unfold nameV; rw [if_pos h0, hie]; rfl
  have hfv : formV op = formsAt i := by unfold formV; rw [if_pos h0, hie]; rfl
  have hsz : (nameV op).size ≤ 100 := by rw [hnv]; exact nm_size i hi58
  have HR : Hid (∀ v, Below W.heap.size W v → Calls Tryd.prog 44 #[.agg #[.int .i64 op, .int .i64 rd, .int .i64 rs1, .int .i64 rs2, .int .u32 imm, .int .i64 csr]] v fun e w' => e = .returned (.bool true) ∧ Below v.heap.size v w') := Lib.hid (fun v hv => hr ▸ right_c op rd rs1 rs2 imm csr hi v (hf.below hv))
  have HN : Hid (∀ v, Below W.heap.size W v → Calls Tryd.prog 45 #[.int .i64 op] v fun e w' => e = .returned (.tuple #[.string (nameV op), .int .i64 0]) ∧ v = w') := Lib.hid (fun v hv => he ▸ name_c op v (hn.below hv))
  have HF : Hid (∀ v, Below W.heap.size W v → Calls Tryd.prog 46 #[.int .i64 op] v fun e w' => e = .returned (.tuple #[.int .i64 (formV op), .int .i64 0]) ∧ v = w') := Lib.hid (fun v hv => he ▸ form_c op v (hf.below hv))
  have hfr := form_rng op
  have hld := loads_dec i hi58
  rw [← hfv] at hld
  unfold textS
  clear hr he hf hn hnv hfv
  generalize formV op = f at *
  generalize nameV op = n at *
  rcases (by omega : f = 0 ∨ f = 1 ∨ f = 2 ∨ f = 3 ∨ f = 4 ∨ f = 5 ∨ f = 6 ∨ f = 7 ∨ f = 8 ∨ f = 9) with rfl | rfl | rfl | rfl | rfl | rfl | rfl | rfl | rfl | rfl
  all_goals simp only [textF, Int.reduceEq, if_true, if_false]
  · exact dtext_f0 op rd rs1 rs2 imm csr n hsz ho h1 h2 h3 h4 hi W HR HN HF
  · exact dtext_f1 op rd rs1 rs2 imm csr n hsz ho h1 h2 h3 h4 hi W HR HN HF
  · exact dtext_f2 op rd rs1 rs2 imm csr n hsz ho h1 h2 h3 h4 hi W HR HN HF
  · rcases hld rfl with h | ⟨hne, ⟨hle, l, hl, hl0⟩ | ⟨hgt, hl⟩⟩
    · rw [if_pos (by omega)]
      exact dtext_f3a op rd rs1 rs2 imm csr n hsz ho (by omega) h1 h2 h3 h4 hi W HR HN HF
    · rw [if_pos (by omega)]
      exact dtext_f3c op rd rs1 rs2 imm csr n hsz ho (by omega) l hl0 (Lib.hid fun v => hie ▸ inst_Loads.calls 9 _ l v hl) h1 h2 h3 h4 hi W HR HN HF
    · rw [if_neg (by omega)]
      exact dtext_f3b op rd rs1 rs2 imm csr n hsz ho (by omega) (Lib.hid fun v => hie ▸ inst_Loads.calls 9 _ 0 v hl) h1 h2 h3 h4 hi W HR HN HF
  · exact dtext_f4 op rd rs1 rs2 imm csr n hsz ho h1 h2 h3 h4 hi W HR HN HF
  · exact dtext_f5 op rd rs1 rs2 imm csr n hsz ho h1 h2 h3 h4 hi W HR HN HF
  · exact dtext_f6 op rd rs1 rs2 imm csr n hsz ho h1 h2 h3 h4 hi W HR HN HF
  · exact dtext_f7 op rd rs1 rs2 imm csr n hsz ho h1 h2 h3 h4 hi W HR HN HF
  · exact dtext_f8 op rd rs1 rs2 imm csr n hsz ho h1 h2 h3 h4 hi W HR HN HF
  · exact dtext_f9 op rd rs1 rs2 imm csr n hsz ho h1 h2 h3 h4 hi W HR HN HF
set_option maxRecDepth 100000 in
theorem dtext_no (op rd rs1 rs2 imm csr : Int) (hi : 0 ≤ imm ∧ imm ≤ 4294967295) (hn : op = 0 ∨ rightB op rd rs1 rs2 imm csr = false) (W : World) (hf : FormsIs W) :
    Calls Tryd.prog 22 #[.agg #[.int .i64 op, .int .i64 rd, .int .i64 rs1, .int .i64 rs2, .int .u32 imm, .int .i64 csr]] W fun e w' => e = .returned (.tuple #[.string ⟨#[]⟩, .int .i64 9]) ∧ Below W.heap.size W w' := by
  by_cases h0 : op = 0
  · subst h0
    clear hn
    go_enter Tryd.func22, Tryd.ntmps22
    go_wp2
    go_ret2
    refine ⟨rfl, ?_⟩
    repeat (first | (with_reducible exact Below.refl _ _) | (with_reducible refine bal ?_ _) | (with_reducible refine Below.drew ?_) | (with_reducible refine bdn ?_ _))
  · have hr : rightB op rd rs1 rs2 imm csr = false := hn.resolve_left h0
    have HR := Lib.hid (fun v (hv : FormsIs v) => hr ▸ right_c op rd rs1 rs2 imm csr hi v hv)
    have HF := Lib.hid hf
    have k0 := nb h0
    clear hr hn hi h0 hf
    go_enter Tryd.func22, Tryd.ntmps22
    go_wp2_with fail
    refine (HR.out _ (HF.out.below (bal (Below.refl _ _) _))).mono ?_
    rintro e w1 ⟨rfl, hb1⟩
    have HB1 := Lib.hid (bthen (bal (Below.refl W.heap.size W) _) hb1)
    clear hb1
    go_wp2
    go_ret2
    exact ⟨rfl, HB1.out⟩
set_option maxRecDepth 100000 in
theorem rtext_no (op rd rs1 rs2 imm csr : Int) (hi : 0 ≤ imm ∧ imm ≤ 4294967295) (hn : op = 0 ∨ rightB op rd rs1 rs2 imm csr = false) (W : World) :
    Calls Tryd.prog 23 #[.agg #[.int .i64 op, .int .i64 rd, .int .i64 rs1, .int .i64 rs2, .int .u32 imm, .int .i64 csr]] W fun e w' => e = .returned (.tuple #[.string ⟨#[]⟩, .bool false]) ∧ Below W.heap.size W w' := by
  by_cases h0 : op = 0
  · subst h0
    clear hn
    go_enter Tryd.func23, Tryd.ntmps23
    go_wp2
    go_ret2
    refine ⟨rfl, ?_⟩
    repeat (first | (with_reducible exact Below.refl _ _) | (with_reducible refine bal ?_ _) | (with_reducible refine Below.drew ?_) | (with_reducible refine bdn ?_ _))
  · have hr : rightB op rd rs1 rs2 imm csr = false := hn.resolve_left h0
    have HR := Lib.hid (fun v => (hr ▸ right_same op rd rs1 rs2 imm csr hi) ▸ rright_c op rd rs1 rs2 imm csr hi v)
    have k0 := nb h0
    clear hr hn hi h0
    go_enter Tryd.func23, Tryd.ntmps23
    go_wp2_with fail
    refine (HR.out _).mono ?_
    rintro e w1 ⟨rfl, hb1⟩
    have HB1 := Lib.hid (bthen (bal (Below.refl W.heap.size W) _) hb1)
    clear hb1
    go_wp2
    go_ret2
    exact ⟨rfl, HB1.out⟩
set_option maxHeartbeats 4000000 in
theorem rtext_ok (op rd rs1 rs2 imm csr : Int) (hi : 0 ≤ imm ∧ imm ≤ 4294967295) (ho : ¬ op = 0) (hr : rightB op rd rs1 rs2 imm csr = true) (W : World) :
    Calls Tryd.prog 23 #[.agg #[.int .i64 op, .int .i64 rd, .int .i64 rs1, .int .i64 rs2, .int .u32 imm, .int .i64 csr]] W fun e w' => e = .returned (.tuple #[.string (textS op rd rs1 rs2 imm csr), .bool true]) ∧ Below W.heap.size W w' := by
  obtain ⟨h0, h1, h2, h3, h4, h5⟩ := right_nums hr
  obtain ⟨i, hie⟩ := Int.eq_ofNat_of_zero_le (has_t h0).1
  have hi58 : i < 58 := by have := (has_t h0).2; omega
  have hnv : nameV op = nameAt i := by unfold nameV; rw [if_pos h0, hie]; rfl
  have hsz : (nameV op).size ≤ 100 := by rw [hnv]; exact nm_size i hi58
  have HR : Hid (∀ v, Calls Tryd.prog 51 #[.agg #[.int .i64 op, .int .i64 rd, .int .i64 rs1, .int .i64 rs2, .int .u32 imm, .int .i64 csr]] v fun e w' => e = .returned (.bool true) ∧ Below v.heap.size v w') := Lib.hid (fun v => by
    have h := rright_c op rd rs1 rs2 imm csr hi v
    rw [← right_same op rd rs1 rs2 imm csr hi, hr] at h
    exact h)
  have HF : Hid (∀ v, Calls Tryd.prog 54 #[.int .i64 op] v fun e w' => e = .returned (.int .i64 (formV op)) ∧ v = w') := Lib.hid (fun v => by
    have h := rform_c op v
    rw [← form_same h0] at h
    exact h)
  have hfr := form_rng op
  unfold textS
  clear hr h0
  generalize formV op = f at *
  generalize nameV op = n at *
  subst hie
  rcases (by omega : f = 0 ∨ f = 1 ∨ f = 2 ∨ f = 3 ∨ f = 4 ∨ f = 5 ∨ f = 6 ∨ f = 7 ∨ f = 8 ∨ f = 9) with rfl | rfl | rfl | rfl | rfl | rfl | rfl | rfl | rfl | rfl
  all_goals simp only [textF, Int.reduceEq, if_true, if_false]
  · exact rtext_f0 i hi58 rd rs1 rs2 imm csr n hnv.symm hsz ho h1 h2 h3 h4 hi W HR HF
  · rw [with2_is]
    exact rtext_f1 i hi58 rd rs1 rs2 imm csr n hnv.symm hsz ho h1 h2 h3 h4 hi W HR HF
  · rw [with2_is]
    exact rtext_f2 i hi58 rd rs1 rs2 imm csr n hnv.symm hsz ho h1 h2 h3 h4 hi W HR HF
  · by_cases h15 : (i : Int) ≤ 15
    · rw [if_pos h15, with2_beside]
      exact rtext_f3a i hi58 rd rs1 rs2 imm csr n hnv.symm hsz ho h15 h1 h2 h3 h4 hi W HR HF
    · rw [if_neg h15, with3_is]
      exact rtext_f3b i hi58 rd rs1 rs2 imm csr n hnv.symm hsz ho h15 h1 h2 h3 h4 hi W HR HF
  · rw [with3_is]
    exact rtext_f4 i hi58 rd rs1 rs2 imm csr n hnv.symm hsz ho h1 h2 h3 h4 hi W HR HF
  · rw [with2_beside]
    exact rtext_f5 i hi58 rd rs1 rs2 imm csr n hnv.symm hsz ho h1 h2 h3 h4 hi W HR HF
  · rw [with3_is]
    exact rtext_f6 i hi58 rd rs1 rs2 imm csr n hnv.symm hsz ho h1 h2 h3 h4 hi W HR HF
  · have e : imm = wrap32 imm := by
      simp [numB] at h5
      unfold wrap32; omega
    rw [with3_is]
    rw [congrArg numS e]
    exact rtext_f7 i hi58 rd rs1 rs2 imm csr n hnv.symm hsz ho h1 h2 h3 h4 hi W HR HF
  · rw [with3_is]
    exact rtext_f8 i hi58 rd rs1 rs2 imm csr n hnv.symm hsz ho h1 h2 h3 h4 hi W HR HF
  · have e : imm = wrap32 imm := by
      simp [numB] at h5
      unfold wrap32; omega
    rw [with3_is]
    rw [congrArg numS e]
    exact rtext_f9 i hi58 rd rs1 rs2 imm csr n hnv.symm hsz ho h1 h2 h3 h4 hi W HR HF
end Go.Proofs.YtnooikjkjcflbadDoor
