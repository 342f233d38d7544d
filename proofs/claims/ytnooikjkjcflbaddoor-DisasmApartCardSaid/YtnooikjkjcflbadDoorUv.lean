/- The law DisasmApart, at all instructions. Conditions: numbers are of their kinds; the listed variables hold what the program's text lays in them. -/
import Derived.Test.YtnooikjkjcflbadDoorIr2
import Derived.Test.YtnooikjkjcflbadDoorIr3
import Derived.Test.YtnooikjkjcflbadDoorUd
import Derived.Test.YtnooikjkjcflbadDoorUe
import Derived.Test.YtnooikjkjcflbadDoorUf
import Derived.Test.YtnooikjkjcflbadDoorUg
import Derived.Test.YtnooikjkjcflbadDoorUh
import Derived.Test.YtnooikjkjcflbadDoorDg
/- The program's forms and the reference's are one. Conditions: none. -/
namespace Go.Proofs.YtnooikjkjcflbadDoor
open Go.RowKit
set_option linter.unusedVariables false
set_option linter.unusedSimpArgs false

theorem form_eq : ∀ i, i < 58 → rformV ((i : Nat) : Int) = formsAt i := by decide +kernel
end Go.Proofs.YtnooikjkjcflbadDoor

/- The program's test of an instruction and the reference's are one. Conditions: words are words. -/
namespace Go.Proofs.YtnooikjkjcflbadDoor
open Go.RowKit
set_option linter.unusedVariables false
set_option linter.unusedSimpArgs false

theorem form_same {op : Int} (h : hasB op = true) : formV op = rformV op := by
  obtain ⟨h0, h1⟩ := has_t h
  obtain ⟨i, rfl⟩ := Int.eq_ofNat_of_zero_le h0
  rw [formV, if_pos h, form_eq i (by omega)]; rfl
theorem right_same (op rd rs1 rs2 imm csr : Int) (hi : 0 ≤ imm ∧ imm ≤ 4294967295) : rightB op rd rs1 rs2 imm csr = rrightB op rd rs1 rs2 imm csr := by
  rcases Bool.eq_false_or_eq_true (hasB op) with h | h
  · have hf := form_same h
    have hr := rform_rng op
    simp only [rightB, rrightB, h, hf, Bool.true_and]
    generalize rformV op = f at *
    clear hf h
    rcases (by omega : f = 0 ∨ f = 1 ∨ f = 2 ∨ f = 3 ∨ f = 4 ∨ f = 5 ∨ f = 6 ∨ f = 7 ∨ f = 8 ∨ f = 9) with rfl | rfl | rfl | rfl | rfl | rfl | rfl | rfl | rfl | rfl
    all_goals
      rw [Bool.eq_iff_iff]
      simp [onlyB, oRd, oRs1, oRs2, oImm, oCsr, regB, rregB, numB, evB, rimmB, rsigB]
      try grind
  · simp [rightB, rrightB, h]
end Go.Proofs.YtnooikjkjcflbadDoor

/- Proved: a number's text tells the number; a text that is put together of parts without commas tells its parts. Conditions: none. -/
namespace Go.Proofs.YtnooikjkjcflbadDoor
open Go.RowKit
set_option linter.unusedVariables false
set_option linter.unusedSimpArgs false

def valN : List Nat → Nat
  | [] => 0
  | d :: l => d + 10 * valN l
theorem val_dig : ∀ (d u : Nat), u ≤ d → valN (digN u) = u := by
  intro d
  induction d with
  | zero => intro u h; rw [digN_small u (by omega)]; simp [valN]
  | succ d ih =>
    intro u h
    by_cases h10 : u < 10
    · rw [digN_small u h10]; simp [valN]
    · rw [digN_big u (by omega)]
      simp only [valN]
      rw [ih (u / 10) (by omega)]
      omega
theorem dig_lt : ∀ (d u : Nat), u ≤ d → ∀ x ∈ digN u, x < 10 := by
  intro d
  induction d with
  | zero => intro u h; rw [digN_small u (by omega)]; simp; omega
  | succ d ih =>
    intro u h
    by_cases h10 : u < 10
    · rw [digN_small u h10]; simp; omega
    · rw [digN_big u (by omega)]
      intro x hx
      rcases List.mem_cons.1 hx with rfl | hx
      · omega
      · exact ih (u / 10) (by omega) x hx
theorem ch_inj {u v : Nat} (h : chN u = chN v) : u = v := by
  have h1 : digN u = digN v := by
    unfold chN at h
    exact (List.map_inj_right (fun a b e => by omega)).1 h
  rw [← val_dig u u (Nat.le_refl _), h1, val_dig v v (Nat.le_refl _)]
theorem ch_mem (u : Nat) : ∀ x ∈ chN u, 48 ≤ x ∧ x ≤ 57 := by
  intro x hx
  unfold chN at hx
  obtain ⟨d, hd, rfl⟩ := List.mem_map.1 hx
  have := dig_lt u u (Nat.le_refl _) d hd
  omega
theorem numN_mem (n : Int) : ∀ x ∈ numN n, 45 ≤ x ∧ x ≤ 57 := by
  intro x hx
  unfold numN at hx
  rw [List.mem_reverse, List.mem_append] at hx
  rcases hx with hx | hx
  · have := ch_mem _ x hx; omega
  · split at hx
    · simp at hx; omega
    · simp at hx
theorem numN_inj {m n : Int} (h : numN m = numN n) : m = n := by
  unfold numN at h
  have h := List.reverse_inj.1 h
  by_cases hm : m < 0 <;> by_cases hn : n < 0
  · rw [if_pos hm, if_pos hn] at h
    have := ch_inj (List.append_cancel_right h)
    omega
  · rw [if_pos hm, if_neg hn, List.append_nil] at h
    have := ch_mem n.natAbs 45 (by rw [← h]; simp)
    omega
  · rw [if_neg hm, if_pos hn, List.append_nil] at h
    have := ch_mem m.natAbs 45 (by rw [h]; simp)
    omega
  · rw [if_neg hm, if_neg hn, List.append_nil, List.append_nil] at h
    have := ch_inj h
    omega
/-- Two lists that are cut at the first c. -/
theorem cut_inj {c : Nat} : ∀ {a a' b b' : List Nat}, (∀ x ∈ a, x ≠ c) → (∀ x ∈ a', x ≠ c) → a ++ c :: b = a' ++ c :: b' → a = a' ∧ b = b' := by
  intro a
  induction a with
  | nil =>
    intro a' b b' _ h' h
    cases a' with
    | nil => simp at h; exact ⟨rfl, h⟩
    | cons x l => simp at h; exact absurd h.1.symm (h' x (by simp))
  | cons y a ih =>
    intro a' b b' h0 h' h
    cases a' with
    | nil => simp at h; exact absurd h.1 (h0 y (by simp))
    | cons x l =>
      simp only [List.cons_append, List.cons.injEq] at h
      obtain ⟨e1, e2⟩ := ih (fun x hx => h0 x (by simp [hx])) (fun x hx => h' x (by simp [hx])) h.2
      exact ⟨by rw [h.1, e1], e2⟩
theorem cut_none {c : Nat} {a a' b : List Nat} (h : ∀ x ∈ a, x ≠ c) (e : a = a' ++ c :: b) : False := h c (by rw [e]; simp) rfl
theorem strN_inj {a b : List Nat} (ha : ∀ x ∈ a, x < 256) (hb : ∀ x ∈ b, x < 256) (h : strN a = strN b) : a = b := by
  have h1 : a.map UInt8.ofNat = b.map UInt8.ofNat := by
    have := congrArg (fun s : ByteArray => s.data.toList) h
    simpa [strN] using this
  have h2 : ∀ l : List Nat, (∀ x ∈ l, x < 256) → (l.map UInt8.ofNat).map UInt8.toNat = l := by
    intro l hl
    rw [List.map_map]
    conv => rhs; rw [← List.map_id l]
    refine List.map_congr_left fun x hx => ?_
    have := hl x hx
    simp [UInt8.toNat_ofNat']
    omega
  rw [← h2 a ha, ← h2 b hb, h1]
end Go.Proofs.YtnooikjkjcflbadDoor

/- Contracts of disasm.Text and of the reference's Text: one text, or none. Conditions: numbers are of their kinds; the listed variables hold what the program's text lays in them. -/
namespace Go.Proofs.YtnooikjkjcflbadDoor
open Go.RowKit Go.Proofs.YtnooikjkjcflbadDoorW.PrintWords Go.Proofs.YtnooikjkjcflbadDoorW.PrintLast Go.Proofs.YtnooikjkjcflbadDoorW.PrintMore Go.Proofs.YtnooikjkjcflbadDoor.PDisasmWords
set_option linter.unusedVariables false
set_option linter.unusedSimpArgs false

theorem cs_split : (⟨#[44, 32]⟩ : ByteArray) = cm ++ sp := rfl
theorem with2_is (n a b : ByteArray) : with2 n a b = (((n ++ (⟨#[32]⟩ : ByteArray)) ++ a) ++ (⟨#[44, 32]⟩ : ByteArray)) ++ b := by
  rw [cs_split, show (⟨#[32]⟩ : ByteArray) = sp from rfl]
  unfold with2
  simp only [ByteArray.append_assoc]
theorem with3_is (n a b c : ByteArray) : with3 n a b c = (((((n ++ (⟨#[32]⟩ : ByteArray)) ++ a) ++ (⟨#[44, 32]⟩ : ByteArray)) ++ b) ++ (⟨#[44, 32]⟩ : ByteArray)) ++ c := by
  rw [cs_split, show (⟨#[32]⟩ : ByteArray) = sp from rfl]
  unfold with3
  simp only [ByteArray.append_assoc]
theorem with2_beside (n a : ByteArray) (imm rs1 : Int) : with2 n a (besideS imm rs1) = ((((((n ++ (⟨#[32]⟩ : ByteArray)) ++ a) ++ (⟨#[44, 32]⟩ : ByteArray)) ++ numS (wrap32 imm)) ++ (⟨#[40]⟩ : ByteArray)) ++ regS rs1) ++ (⟨#[41]⟩ : ByteArray) := by
  rw [cs_split, show (⟨#[32]⟩ : ByteArray) = sp from rfl]
  unfold with2 besideS op1 cl1
  simp only [ByteArray.append_assoc]
/-- An instruction's text, of a right one. -/
def textF (f op : Int) (n : ByteArray) (rd rs1 rs2 imm csr : Int) : ByteArray :=
  if f = 0 then n
  else if f = 1 then with2 n (regS rd) (numS (imm / 4096))
  else if f = 2 then with2 n (regS rd) (numS (wrap32 imm))
  else if f = 3 then (if op ≤ 15 then with2 n (regS rd) (besideS imm rs1) else with3 n (regS rd) (regS rs1) (numS (wrap32 imm)))
  else if f = 4 then with3 n (regS rs1) (regS rs2) (numS (wrap32 imm))
  else if f = 5 then with2 n (regS rs2) (besideS imm rs1)
  else if f = 6 then with3 n (regS rd) (regS rs1) (regS rs2)
  else if f = 7 then with3 n (regS rd) (regS rs1) (numS imm)
  else if f = 8 then with3 n (regS rd) (numS csr) (regS rs1)
  else with3 n (regS rd) (numS csr) (numS imm)
def textS (op rd rs1 rs2 imm csr : Int) : ByteArray := textF (formV op) op (nameV op) rd rs1 rs2 imm csr
theorem nm_size : ∀ i, i < 58 → (nameAt i).size ≤ 100 := by decide +kernel
theorem loads_dec : ∀ i : Nat, i < 58 → formsAt i = 3 → i = 4 ∨ (¬ i = 4 ∧ ((i ≤ 15 ∧ ∃ l, inst_Loads.f 9 (i : Int) = some l ∧ 0 < l) ∨ (15 < i ∧ inst_Loads.f 9 (i : Int) = some 0))) := by
  intro i hi hf
  have h : (formsAt i = 3 → i = 4 ∨ (¬ i = 4 ∧ ((i ≤ 15 ∧ (match inst_Loads.f 9 (i : Int) with | some l => decide (0 < l) | none => false) = true) ∨ (15 < i ∧ inst_Loads.f 9 (i : Int) = some 0)))) := by
    revert i
    decide +kernel
  rcases h hf with h | ⟨h4, h | h⟩
  · exact .inl h
  · refine .inr ⟨h4, .inl ⟨h.1, ?_⟩⟩
    cases hl : inst_Loads.f 9 (i : Int) with
    | none => rw [hl] at h; exact absurd h.2 (by decide)
    | some l => rw [hl] at h; exact ⟨l, rfl, by simpa using h.2⟩
  · exact .inr ⟨h4, .inr h⟩
theorem right_nums {op rd rs1 rs2 imm csr : Int} (h : rightB op rd rs1 rs2 imm csr = true) : hasB op = true ∧ I64 rd ∧ I64 rs1 ∧ I64 rs2 ∧ I64 csr ∧ numB (formV op) imm = true := by
  unfold rightB onlyB regB at h
  simp only [Bool.and_eq_true, decide_eq_true_eq, beq_iff_eq] at h
  obtain ⟨⟨⟨⟨⟨⟨⟨h0, h1⟩, h2⟩, h3⟩, h4⟩, h5⟩, h6⟩, h7⟩ := h
  exact ⟨h0, ⟨by omega, by omega⟩, ⟨by omega, by omega⟩, ⟨by omega, by omega⟩, ⟨by omega, by omega⟩, h5⟩
set_option maxHeartbeats 4000000 in
theorem dtext_ok (op rd rs1 rs2 imm csr : Int) (hi : 0 ≤ imm ∧ imm ≤ 4294967295) (ho : ¬ op = 0) (hr : rightB op rd rs1 rs2 imm csr = true) (W : World) (hn : NamesIs W) (hf : FormsIs W) :
    Calls Tryd.prog 22 #[.agg #[.int .i64 op, .int .i64 rd, .int .i64 rs1, .int .i64 rs2, .int .u32 imm, .int .i64 csr]] W fun e w' => e = .returned (.tuple #[.string (textS op rd rs1 rs2 imm csr), .int .i64 0]) ∧ Below W.heap.size W w' := by
  obtain ⟨h0, h1, h2, h3, h4, _⟩ := right_nums hr
  obtain ⟨i, hie⟩ := Int.eq_ofNat_of_zero_le (has_t h0).1
  have hi58 : i < 58 := by have := (has_t h0).2; omega
  have he : hasE op = 0 := by simp [hasE, h0]
  have hnv : nameV op = nameAt i := by unfold nameV; rw [if_pos h0, hie]; rfl
  have hfv : formV op = formsAt i := by unfold formV; rw [if_pos h0, hie]; rfl
  have hsz : (nameV op).size ≤ 100 := by rw [hnv]; exact nm_size i hi58
  have HR : Hid (∀ v, Below W.heap.size W v → Calls Tryd.prog 44 #[.agg #[.int .i64 op, .int .i64 rd, .int .i64 rs1, .int .i64 rs2, .int .u32 imm, .int .i64 csr]] v fun e w' => e = .returned (.bool true) ∧ Below v.heap.size v w') := Lib.hid (fun v hv => hr ▸ right_c op rd rs1 rs2 imm csr hi v (hf.below hv))
  have HN : Hid (∀ v, Below W.heap.size W v → Calls Tryd.prog 45 #[.int .i64 op] v fun e w' => e = .returned (.tuple #[.string (nameV op), .int .i64 0]) ∧ v = w') := Lib.hid (fun v hv => he ▸ name_c op v (hn.below hv))
  have HF : Hid (∀ v, Below W.heap.size W v → Calls Tryd.prog 46 #[.int .i64 op] v fun e w' => e = .returned (.tuple #[.int .i64 (formV op), .int .i64 0]) ∧ v = w') := Lib.hid (fun v hv => he ▸ form_c op v (hf.below hv))
  have hfr := form_rng op
  have hld := loads_dec i hi58
  rw [← hfv] at hld
  unfold textS
  clear hr he hf hn hnv hfv
  generalize formV op = f at *
  generalize nameV op = n at *
  rcases (by omega : f = 0 ∨ f = 1 ∨ f = 2 ∨ f = 3 ∨ f = 4 ∨ f = 5 ∨ f = 6 ∨ f = 7 ∨ f = 8 ∨ f = 9) with rfl | rfl | rfl | rfl | rfl | rfl | rfl | rfl | rfl | rfl
  all_goals simp only [textF, Int.reduceEq, if_true, if_false]
  · exact dtext_f0 op rd rs1 rs2 imm csr n hsz ho h1 h2 h3 h4 hi W HR HN HF
  · exact dtext_f1 op rd rs1 rs2 imm csr n hsz ho h1 h2 h3 h4 hi W HR HN HF
  · exact dtext_f2 op rd rs1 rs2 imm csr n hsz ho h1 h2 h3 h4 hi W HR HN HF
  · rcases hld rfl with h | ⟨hne, ⟨hle, l, hl, hl0⟩ | ⟨hgt, hl⟩⟩
    · rw [if_pos (by omega)]
      exact dtext_f3a op rd rs1 rs2 imm csr n hsz ho (by omega) h1 h2 h3 h4 hi W HR HN HF
    · rw [if_pos (by omega)]
      exact dtext_f3c op rd rs1 rs2 imm csr n hsz ho (by omega) l hl0 (Lib.hid fun v => hie ▸ inst_Loads.calls 9 _ l v hl) h1 h2 h3 h4 hi W HR HN HF
    · rw [if_neg (by omega)]
      exact dtext_f3b op rd rs1 rs2 imm csr n hsz ho (by omega) (Lib.hid fun v => hie ▸ inst_Loads.calls 9 _ 0 v hl) h1 h2 h3 h4 hi W HR HN HF
  · exact dtext_f4 op rd rs1 rs2 imm csr n hsz ho h1 h2 h3 h4 hi W HR HN HF
  · exact dtext_f5 op rd rs1 rs2 imm csr n hsz ho h1 h2 h3 h4 hi W HR HN HF
  · exact dtext_f6 op rd rs1 rs2 imm csr n hsz ho h1 h2 h3 h4 hi W HR HN HF
  · exact dtext_f7 op rd rs1 rs2 imm csr n hsz ho h1 h2 h3 h4 hi W HR HN HF
  · exact dtext_f8 op rd rs1 rs2 imm csr n hsz ho h1 h2 h3 h4 hi W HR HN HF
  · exact dtext_f9 op rd rs1 rs2 imm csr n hsz ho h1 h2 h3 h4 hi W HR HN HF
set_option maxRecDepth 100000 in
theorem dtext_no (op rd rs1 rs2 imm csr : Int) (hi : 0 ≤ imm ∧ imm ≤ 4294967295) (hn : op = 0 ∨ rightB op rd rs1 rs2 imm csr = false) (W : World) (hf : FormsIs W) :
    Calls Tryd.prog 22 #[.agg #[.int .i64 op, .int .i64 rd, .int .i64 rs1, .int .i64 rs2, .int .u32 imm, .int .i64 csr]] W fun e w' => e = .returned (.tuple #[.string ⟨#[]⟩, .int .i64 9]) ∧ Below W.heap.size W w' := by
  by_cases h0 : op = 0
  · subst h0
    clear hn
    go_enter Tryd.func22, Tryd.ntmps22
    go_wp2
    go_ret2
    refine ⟨rfl, ?_⟩
    repeat (first | (with_reducible exact Below.refl _ _) | (with_reducible refine bal ?_ _) | (with_reducible refine Below.drew ?_) | (with_reducible refine bdn ?_ _))
  · have hr : rightB op rd rs1 rs2 imm csr = false := hn.resolve_left h0
    have HR := Lib.hid (fun v (hv : FormsIs v) => hr ▸ right_c op rd rs1 rs2 imm csr hi v hv)
    have HF := Lib.hid hf
    have k0 := nb h0
    clear hr hn hi h0 hf
    go_enter Tryd.func22, Tryd.ntmps22
    go_wp2_with fail
    refine (HR.out _ (HF.out.below (bal (Below.refl _ _) _))).mono ?_
    rintro e w1 ⟨rfl, hb1⟩
    have HB1 := Lib.hid (bthen (bal (Below.refl W.heap.size W) _) hb1)
    clear hb1
    go_wp2
    go_ret2
    exact ⟨rfl, HB1.out⟩
set_option maxRecDepth 100000 in
theorem rtext_no (op rd rs1 rs2 imm csr : Int) (hi : 0 ≤ imm ∧ imm ≤ 4294967295) (hn : op = 0 ∨ rightB op rd rs1 rs2 imm csr = false) (W : World) :
    Calls Tryd.prog 23 #[.agg #[.int .i64 op, .int .i64 rd, .int .i64 rs1, .int .i64 rs2, .int .u32 imm, .int .i64 csr]] W fun e w' => e = .returned (.tuple #[.string ⟨#[]⟩, .bool false]) ∧ Below W.heap.size W w' := by
  by_cases h0 : op = 0
  · subst h0
    clear hn
    go_enter Tryd.func23, Tryd.ntmps23
    go_wp2
    go_ret2
    refine ⟨rfl, ?_⟩
    repeat (first | (with_reducible exact Below.refl _ _) | (with_reducible refine bal ?_ _) | (with_reducible refine Below.drew ?_) | (with_reducible refine bdn ?_ _))
  · have hr : rightB op rd rs1 rs2 imm csr = false := hn.resolve_left h0
    have HR := Lib.hid (fun v => (hr ▸ right_same op rd rs1 rs2 imm csr hi) ▸ rright_c op rd rs1 rs2 imm csr hi v)
    have k0 := nb h0
    clear hr hn hi h0
    go_enter Tryd.func23, Tryd.ntmps23
    go_wp2_with fail
    refine (HR.out _).mono ?_
    rintro e w1 ⟨rfl, hb1⟩
    have HB1 := Lib.hid (bthen (bal (Below.refl W.heap.size W) _) hb1)
    clear hb1
    go_wp2
    go_ret2
    exact ⟨rfl, HB1.out⟩
set_option maxHeartbeats 4000000 in
theorem rtext_ok (op rd rs1 rs2 imm csr : Int) (hi : 0 ≤ imm ∧ imm ≤ 4294967295) (ho : ¬ op = 0) (hr : rightB op rd rs1 rs2 imm csr = true) (W : World) :
    Calls Tryd.prog 23 #[.agg #[.int .i64 op, .int .i64 rd, .int .i64 rs1, .int .i64 rs2, .int .u32 imm, .int .i64 csr]] W fun e w' => e = .returned (.tuple #[.string (textS op rd rs1 rs2 imm csr), .bool true]) ∧ Below W.heap.size W w' := by
  obtain ⟨h0, h1, h2, h3, h4, h5⟩ := right_nums hr
  obtain ⟨i, hie⟩ := Int.eq_ofNat_of_zero_le (has_t h0).1
  have hi58 : i < 58 := by have := (has_t h0).2; omega
  have hnv : nameV op = nameAt i := by unfold nameV; rw [if_pos h0, hie]; rfl
  have hsz : (nameV op).size ≤ 100 := by rw [hnv]; exact nm_size i hi58
  have HR : Hid (∀ v, Calls Tryd.prog 51 #[.agg #[.int .i64 op, .int .i64 rd, .int .i64 rs1, .int .i64 rs2, .int .u32 imm, .int .i64 csr]] v fun e w' => e = .returned (.bool true) ∧ Below v.heap.size v w') := Lib.hid (fun v => by
    have h := rright_c op rd rs1 rs2 imm csr hi v
    rw [← right_same op rd rs1 rs2 imm csr hi, hr] at h
    exact h)
  have HF : Hid (∀ v, Calls Tryd.prog 54 #[.int .i64 op] v fun e w' => e = .returned (.int .i64 (formV op)) ∧ v = w') := Lib.hid (fun v => by
    have h := rform_c op v
    rw [← form_same h0] at h
    exact h)
  have hfr := form_rng op
  unfold textS
  clear hr h0
  generalize formV op = f at *
  generalize nameV op = n at *
  subst hie
  rcases (by omega : f = 0 ∨ f = 1 ∨ f = 2 ∨ f = 3 ∨ f = 4 ∨ f = 5 ∨ f = 6 ∨ f = 7 ∨ f = 8 ∨ f = 9) with rfl | rfl | rfl | rfl | rfl | rfl | rfl | rfl | rfl | rfl
  all_goals simp only [textF, Int.reduceEq, if_true, if_false]
  · exact rtext_f0 i hi58 rd rs1 rs2 imm csr n hnv.symm hsz ho h1 h2 h3 h4 hi W HR HF
  · rw [with2_is]
    exact rtext_f1 i hi58 rd rs1 rs2 imm csr n hnv.symm hsz ho h1 h2 h3 h4 hi W HR HF
  · rw [with2_is]
    exact rtext_f2 i hi58 rd rs1 rs2 imm csr n hnv.symm hsz ho h1 h2 h3 h4 hi W HR HF
  · by_cases h15 : (i : Int) ≤ 15
    · rw [if_pos h15, with2_beside]
      exact rtext_f3a i hi58 rd rs1 rs2 imm csr n hnv.symm hsz ho h15 h1 h2 h3 h4 hi W HR HF
    · rw [if_neg h15, with3_is]
      exact rtext_f3b i hi58 rd rs1 rs2 imm csr n hnv.symm hsz ho h15 h1 h2 h3 h4 hi W HR HF
  · rw [with3_is]
    exact rtext_f4 i hi58 rd rs1 rs2 imm csr n hnv.symm hsz ho h1 h2 h3 h4 hi W HR HF
  · rw [with2_beside]
    exact rtext_f5 i hi58 rd rs1 rs2 imm csr n hnv.symm hsz ho h1 h2 h3 h4 hi W HR HF
  · rw [with3_is]
    exact rtext_f6 i hi58 rd rs1 rs2 imm csr n hnv.symm hsz ho h1 h2 h3 h4 hi W HR HF
  · have e : imm = wrap32 imm := by
      simp [numB] at h5
      unfold wrap32; omega
    rw [with3_is]
    rw [congrArg numS e]
    exact rtext_f7 i hi58 rd rs1 rs2 imm csr n hnv.symm hsz ho h1 h2 h3 h4 hi W HR HF
  · rw [with3_is]
    exact rtext_f8 i hi58 rd rs1 rs2 imm csr n hnv.symm hsz ho h1 h2 h3 h4 hi W HR HF
  · have e : imm = wrap32 imm := by
      simp [numB] at h5
      unfold wrap32; omega
    rw [with3_is]
    rw [congrArg numS e]
    exact rtext_f9 i hi58 rd rs1 rs2 imm csr n hnv.symm hsz ho h1 h2 h3 h4 hi W HR HF
end Go.Proofs.YtnooikjkjcflbadDoor

/- Proved: an instruction's text tells the instruction. Conditions: the instructions are right; numbers are of their kinds. -/
namespace Go.Proofs.YtnooikjkjcflbadDoor
open Go.RowKit
set_option linter.unusedVariables false
set_option linter.unusedSimpArgs false

def regN (n : Int) : List Nat := 120 :: numN n
def besN (imm rs1 : Int) : List Nat := numN (wrap32 imm) ++ 40 :: (regN rs1 ++ [41])
def two (a b : List Nat) : List Nat := a ++ 44 :: 32 :: b
def three (a b c : List Nat) : List Nat := a ++ 44 :: 32 :: (b ++ 44 :: 32 :: c)
def bodyN (f op rd rs1 rs2 imm csr : Int) : List Nat :=
  if f = 1 then two (regN rd) (numN (imm / 4096))
  else if f = 2 then two (regN rd) (numN (wrap32 imm))
  else if f = 3 then (if op ≤ 15 then two (regN rd) (besN imm rs1) else three (regN rd) (regN rs1) (numN (wrap32 imm)))
  else if f = 4 then three (regN rs1) (regN rs2) (numN (wrap32 imm))
  else if f = 5 then two (regN rs2) (besN imm rs1)
  else if f = 6 then three (regN rd) (regN rs1) (regN rs2)
  else if f = 7 then three (regN rd) (regN rs1) (numN imm)
  else if f = 8 then three (regN rd) (numN csr) (regN rs1)
  else three (regN rd) (numN csr) (numN imm)
def textN (f op : Int) (n : List Nat) (rd rs1 rs2 imm csr : Int) : List Nat := if f = 0 then n else n ++ 32 :: bodyN f op rd rs1 rs2 imm csr
theorem regS_is (n : Int) : regS n = strN (regN n) := by
  unfold regS regN numS
  rw [show (⟨#[120]⟩ : ByteArray) = strN [120] from rfl, ← strN_append]
  rfl
theorem bes_is (imm rs1 : Int) : besideS imm rs1 = strN (besN imm rs1) := by
  unfold besideS besN numS
  rw [regS_is, show op1 = strN [40] from rfl, show cl1 = strN [41] from rfl, ← strN_append, ← strN_append, ← strN_append]
  congr 1
  simp
theorem w2_is (n a b : List Nat) : with2 (strN n) (strN a) (strN b) = strN (n ++ 32 :: two a b) := by
  unfold with2 two
  rw [show sp = strN [32] from rfl, show cm = strN [44] from rfl, ← strN_append, ← strN_append, ← strN_append, ← strN_append, ← strN_append]
  congr 1
  simp
theorem w3_is (n a b c : List Nat) : with3 (strN n) (strN a) (strN b) (strN c) = strN (n ++ 32 :: three a b c) := by
  unfold with3 three
  rw [show sp = strN [32] from rfl, show cm = strN [44] from rfl, ← strN_append, ← strN_append, ← strN_append, ← strN_append, ← strN_append, ← strN_append, ← strN_append, ← strN_append]
  congr 1
  simp
theorem textF_is (f op : Int) (n : List Nat) (rd rs1 rs2 imm csr : Int) : textF f op (strN n) rd rs1 rs2 imm csr = strN (textN f op n rd rs1 rs2 imm csr) := by
  unfold textF textN bodyN
  simp only [regS_is, bes_is, show ∀ m, numS m = strN (numN m) from fun _ => rfl, w2_is, w3_is]
  by_cases h0 : f = 0
  · rw [if_pos h0, if_pos h0]
  · rw [if_neg h0, if_neg h0]
    repeat' split
    all_goals rfl
theorem reg_mem (n : Int) : ∀ x ∈ regN n, 45 ≤ x ∧ x ≤ 120 := by
  intro x hx
  rcases List.mem_cons.1 hx with rfl | hx
  · omega
  · have := numN_mem n x hx; omega
theorem regN_inj {m n : Int} (h : regN m = regN n) : m = n := numN_inj (List.cons.inj h).2
theorem reg_no (n : Int) : ∀ x ∈ regN n, x ≠ 44 := fun x hx => by have := reg_mem n x hx; omega
theorem num_no (n : Int) : ∀ x ∈ numN n, x ≠ 44 := fun x hx => by have := numN_mem n x hx; omega
theorem num_no40 (n : Int) : ∀ x ∈ numN n, x ≠ 40 := fun x hx => by have := numN_mem n x hx; omega
theorem two_inj {a a' b b' : List Nat} (h1 : ∀ x ∈ a, x ≠ 44) (h2 : ∀ x ∈ a', x ≠ 44) (h : two a b = two a' b') : a = a' ∧ b = b' := by
  obtain ⟨e1, e2⟩ := cut_inj h1 h2 h
  exact ⟨e1, (List.cons.inj e2).2⟩
theorem three_inj {a a' b b' c c' : List Nat} (h1 : ∀ x ∈ a, x ≠ 44) (h2 : ∀ x ∈ a', x ≠ 44) (h3 : ∀ x ∈ b, x ≠ 44) (h4 : ∀ x ∈ b', x ≠ 44) (h : three a b c = three a' b' c') : a = a' ∧ b = b' ∧ c = c' := by
  obtain ⟨e1, e2⟩ := cut_inj h1 h2 h
  obtain ⟨e3, e4⟩ := cut_inj h3 h4 (List.cons.inj e2).2
  exact ⟨e1, e3, (List.cons.inj e4).2⟩
theorem w32_inj {x y : Int} (hx : 0 ≤ x ∧ x ≤ 4294967295) (hy : 0 ≤ y ∧ y ≤ 4294967295) (h : wrap32 x = wrap32 y) : x = y := by
  unfold wrap32 at h; omega
theorem bes_inj {i r i' r' : Int} (hx : 0 ≤ i ∧ i ≤ 4294967295) (hy : 0 ≤ i' ∧ i' ≤ 4294967295) (h : besN i r = besN i' r') : i = i' ∧ r = r' := by
  obtain ⟨e1, e2⟩ := cut_inj (num_no40 _) (num_no40 _) h
  exact ⟨w32_inj hx hy (numN_inj e1), regN_inj (List.append_cancel_right e2)⟩
/-- The parts' text tells what the form names. -/
theorem body_inj (f op : Int) (hf : 1 ≤ f ∧ f ≤ 9) (rd rs1 rs2 imm csr rd' rs1' rs2' imm' csr' : Int) (hi : 0 ≤ imm ∧ imm ≤ 4294967295) (hi' : 0 ≤ imm' ∧ imm' ≤ 4294967295)
    (k1 : oRd f rd = rd ∧ oRs1 f rs1 = rs1 ∧ oRs2 f rs2 = rs2 ∧ oImm f imm = imm ∧ oCsr f csr = csr) (k2 : oRd f rd' = rd' ∧ oRs1 f rs1' = rs1' ∧ oRs2 f rs2' = rs2' ∧ oImm f imm' = imm' ∧ oCsr f csr' = csr')
    (n1 : numB f imm = true) (n2 : numB f imm' = true) (h : bodyN f op rd rs1 rs2 imm csr = bodyN f op rd' rs1' rs2' imm' csr') : rd = rd' ∧ rs1 = rs1' ∧ rs2 = rs2' ∧ imm = imm' ∧ csr = csr' := by
  rcases (by omega : f = 1 ∨ f = 2 ∨ f = 3 ∨ f = 4 ∨ f = 5 ∨ f = 6 ∨ f = 7 ∨ f = 8 ∨ f = 9) with rfl | rfl | rfl | rfl | rfl | rfl | rfl | rfl | rfl
  all_goals
    simp [oRd, oRs1, oRs2, oImm, oCsr] at k1 k2
    simp only [bodyN, Int.reduceEq, if_true, if_false] at h
  · obtain ⟨e1, e2⟩ := two_inj (reg_no _) (reg_no _) h
    have := regN_inj e1
    have h4 := numN_inj e2
    simp [numB] at n1 n2
    omega
  · obtain ⟨e1, e2⟩ := two_inj (reg_no _) (reg_no _) h
    have := regN_inj e1
    have h4 := w32_inj hi hi' (numN_inj e2)
    omega
  · by_cases h15 : op ≤ 15
    · rw [if_pos h15, if_pos h15] at h
      obtain ⟨e1, e2⟩ := two_inj (reg_no _) (reg_no _) h
      have := regN_inj e1
      have h4 := bes_inj hi hi' e2
      omega
    · rw [if_neg h15, if_neg h15] at h
      obtain ⟨e1, e2, e3⟩ := three_inj (reg_no _) (reg_no _) (reg_no _) (reg_no _) h
      have := regN_inj e1
      have := regN_inj e2
      have h4 := w32_inj hi hi' (numN_inj e3)
      omega
  · obtain ⟨e1, e2, e3⟩ := three_inj (reg_no _) (reg_no _) (reg_no _) (reg_no _) h
    have := regN_inj e1
    have := regN_inj e2
    have h4 := w32_inj hi hi' (numN_inj e3)
    omega
  · obtain ⟨e1, e2⟩ := two_inj (reg_no _) (reg_no _) h
    have := regN_inj e1
    have h4 := bes_inj hi hi' e2
    omega
  · obtain ⟨e1, e2, e3⟩ := three_inj (reg_no _) (reg_no _) (reg_no _) (reg_no _) h
    have := regN_inj e1
    have := regN_inj e2
    have := regN_inj e3
    omega
  · obtain ⟨e1, e2, e3⟩ := three_inj (reg_no _) (reg_no _) (reg_no _) (reg_no _) h
    have := regN_inj e1
    have := regN_inj e2
    have := numN_inj e3
    omega
  · obtain ⟨e1, e2, e3⟩ := three_inj (reg_no _) (reg_no _) (num_no _) (num_no _) h
    have := regN_inj e1
    have := numN_inj e2
    have := regN_inj e3
    omega
  · obtain ⟨e1, e2, e3⟩ := three_inj (reg_no _) (reg_no _) (num_no _) (num_no _) h
    have := regN_inj e1
    have := numN_inj e2
    have := numN_inj e3
    omega
end Go.Proofs.YtnooikjkjcflbadDoor

/- Proved: two right instructions that have one text are one. Conditions: numbers are of their kinds. -/
namespace Go.Proofs.YtnooikjkjcflbadDoor
open Go.RowKit
set_option linter.unusedVariables false
set_option linter.unusedSimpArgs false

def nmN (i : Nat) : List Nat := (namesL.getD i []).map UInt8.toNat
theorem nm_strN (i : Nat) : nameAt i = strN (nmN i) := by
  unfold nameAt nmN strN
  rw [List.map_map]
  congr 2
  conv => lhs; rw [← List.map_id (namesL.getD i [])]
  refine List.map_congr_left fun x _ => ?_
  simp
theorem nm_no32 : ∀ i, i < 58 → ((nmN i).all fun x => decide (x ≠ 32) && decide (x < 256)) = true := by decide +kernel
theorem nm_apart : ∀ i, i < 58 → ∀ j, j < 58 → nmN i = nmN j → i = j := by decide +kernel
theorem two_le {a b : List Nat} (ha : ∀ x ∈ a, x ≤ 120) (hb : ∀ x ∈ b, x ≤ 120) : ∀ x ∈ two a b, x ≤ 120 := by
  intro x hx
  unfold two at hx
  simp only [List.mem_append, List.mem_cons] at hx
  rcases hx with h | rfl | rfl | h
  · exact ha x h
  · omega
  · omega
  · exact hb x h
theorem three_le {a b c : List Nat} (ha : ∀ x ∈ a, x ≤ 120) (hb : ∀ x ∈ b, x ≤ 120) (hc : ∀ x ∈ c, x ≤ 120) : ∀ x ∈ three a b c, x ≤ 120 := two_le ha (two_le hb hc)
theorem reg_le (n : Int) : ∀ x ∈ regN n, x ≤ 120 := fun x hx => (reg_mem n x hx).2
theorem num_le (n : Int) : ∀ x ∈ numN n, x ≤ 120 := fun x hx => by have := numN_mem n x hx; omega
theorem bes_le (i r : Int) : ∀ x ∈ besN i r, x ≤ 120 := by
  intro x hx
  unfold besN at hx
  simp only [List.mem_append, List.mem_cons, List.not_mem_nil, or_false] at hx
  rcases hx with h | rfl | h | rfl
  · exact num_le _ x h
  · omega
  · exact reg_le _ x h
  · omega
theorem body_le (f op rd rs1 rs2 imm csr : Int) : ∀ x ∈ bodyN f op rd rs1 rs2 imm csr, x ≤ 120 := by
  unfold bodyN
  repeat' split
  all_goals first | exact two_le (reg_le _) (num_le _) | exact two_le (reg_le _) (bes_le _ _) | exact three_le (reg_le _) (reg_le _) (num_le _) | exact three_le (reg_le _) (reg_le _) (reg_le _) | exact three_le (reg_le _) (num_le _) (reg_le _) | exact three_le (reg_le _) (num_le _) (num_le _)
theorem text_lt (f op : Int) (i : Nat) (hi : i < 58) (rd rs1 rs2 imm csr : Int) : ∀ x ∈ textN f op (nmN i) rd rs1 rs2 imm csr, x < 256 := by
  intro x hx
  have hn := nm_no32 i hi
  rw [List.all_eq_true] at hn
  unfold textN at hx
  split at hx
  · have := hn x hx; simp at this; omega
  · simp only [List.mem_append, List.mem_cons] at hx
    rcases hx with h | rfl | h
    · have := hn x h; simp at this; omega
    · omega
    · have := body_le _ _ _ _ _ _ _ x h; omega
theorem right_all {op rd rs1 rs2 imm csr : Int} (h : rightB op rd rs1 rs2 imm csr = true) : hasB op = true ∧ (oRd (formV op) rd = rd ∧ oRs1 (formV op) rs1 = rs1 ∧ oRs2 (formV op) rs2 = rs2 ∧ oImm (formV op) imm = imm ∧ oCsr (formV op) csr = csr) ∧ numB (formV op) imm = true := by
  unfold rightB onlyB at h
  simp only [Bool.and_eq_true, beq_iff_eq] at h
  obtain ⟨⟨⟨⟨⟨⟨⟨h0, h1⟩, h2⟩, h3⟩, h4⟩, h5⟩, h6⟩, h7⟩ := h
  exact ⟨h0, ⟨h1.1, h1.2.1, h1.2.2.1, h1.2.2.2.1, h1.2.2.2.2⟩, h5⟩
theorem text_inj {op rd rs1 rs2 imm csr op' rd' rs1' rs2' imm' csr' : Int} (hi : 0 ≤ imm ∧ imm ≤ 4294967295) (hi' : 0 ≤ imm' ∧ imm' ≤ 4294967295) (hr : rightB op rd rs1 rs2 imm csr = true) (hr' : rightB op' rd' rs1' rs2' imm' csr' = true)
    (h : textS op rd rs1 rs2 imm csr = textS op' rd' rs1' rs2' imm' csr') : op = op' ∧ rd = rd' ∧ rs1 = rs1' ∧ rs2 = rs2' ∧ imm = imm' ∧ csr = csr' := by
  obtain ⟨h0, k1, n1⟩ := right_all hr
  obtain ⟨h0', k2, n2⟩ := right_all hr'
  obtain ⟨i, rfl⟩ := Int.eq_ofNat_of_zero_le (has_t h0).1
  obtain ⟨j, rfl⟩ := Int.eq_ofNat_of_zero_le (has_t h0').1
  have hi58 : i < 58 := by have := (has_t h0).2; omega
  have hj58 : j < 58 := by have := (has_t h0').2; omega
  have ni : nameV (i : Int) = strN (nmN i) := by unfold nameV; rw [if_pos h0]; exact nm_strN i
  have nj : nameV (j : Int) = strN (nmN j) := by unfold nameV; rw [if_pos h0']; exact nm_strN j
  have fr := form_rng (i : Int)
  have fr' := form_rng (j : Int)
  unfold textS at h
  rw [ni, nj, textF_is, textF_is] at h
  have e := strN_inj (text_lt _ _ i hi58 _ _ _ _ _) (text_lt _ _ j hj58 _ _ _ _ _) h
  have a1 := nm_no32 i hi58
  have a2 := nm_no32 j hj58
  rw [List.all_eq_true] at a1 a2
  have b1 : ∀ x ∈ nmN i, x ≠ 32 := fun x hx => by have := a1 x hx; simp at this; exact this.1
  have b2 : ∀ x ∈ nmN j, x ≠ 32 := fun x hx => by have := a2 x hx; simp at this; exact this.1
  unfold textN at e
  by_cases z1 : formV (i : Int) = 0 <;> by_cases z2 : formV (j : Int) = 0
  · rw [if_pos z1, if_pos z2] at e
    obtain rfl := nm_apart i hi58 j hj58 e
    rw [z1] at k1 k2
    simp [oRd, oRs1, oRs2, oImm, oCsr] at k1 k2
    omega
  · rw [if_pos z1, if_neg z2] at e
    exact (cut_none b1 e).elim
  · rw [if_neg z1, if_pos z2] at e
    exact (cut_none b2 e.symm).elim
  · rw [if_neg z1, if_neg z2] at e
    obtain ⟨e1, e2⟩ := cut_inj b1 b2 e
    obtain rfl := nm_apart i hi58 j hj58 e1
    have := body_inj _ _ ⟨by omega, fr.2⟩ _ _ _ _ _ _ _ _ _ _ hi hi' k1 k2 n1 n2 e2
    exact ⟨rfl, this⟩
end Go.Proofs.YtnooikjkjcflbadDoor

/- Contracts of disasm.Word and of the laws' example of layer 5, and the walks of the laws DisasmNumbers and DisasmTexts: each returns true. Conditions: numbers are of their kinds; the listed variables hold what the program's text lays in them. -/
namespace Go.Proofs.YtnooikjkjcflbadDoor
open Go.RowKit Go.Proofs.YtnooikjkjcflbadDoorW.PrintWords Go.Proofs.YtnooikjkjcflbadDoorW.PrintLast Go.Proofs.YtnooikjkjcflbadDoorW.PrintMore
set_option linter.unusedVariables false
set_option linter.unusedSimpArgs false

theorem word_a : kindV 4263550691 = 6 ∧ rightB 6 0 1 2 4294967292 0 = true ∧ formV 6 = 4 ∧ nameV 6 = ⟨#[98, 110, 101]⟩ := by decide +kernel
theorem num_1 : numS 1 = ⟨#[49]⟩ := by unfold numS numN chN; rw [digN_small _ (by decide)]; rfl
theorem num_2 : numS 2 = ⟨#[50]⟩ := by unfold numS numN chN; rw [digN_small _ (by decide)]; rfl
theorem num_0 : numS 0 = ⟨#[48]⟩ := by unfold numS numN chN; rw [digN_small _ (by decide)]; rfl
theorem num_m4 : numS (-4) = ⟨#[45, 52]⟩ := by unfold numS numN chN; rw [digN_small _ (by decide)]; rfl
theorem num_m120 : numS (-120) = ⟨#[45, 49, 50, 48]⟩ := by
  unfold numS numN chN
  rw [show (-120 : Int).natAbs = 120 from rfl, digN_big _ (by decide), show 120 / 10 = 12 from rfl, digN_big _ (by decide), show 12 / 10 = 1 from rfl, digN_small _ (by decide)]
  rfl
theorem text_a : textS 6 0 1 2 4294967292 0 = ⟨#[98, 110, 101, 32, 120, 49, 44, 32, 120, 50, 44, 32, 45, 52]⟩ := by
  unfold textS
  rw [word_a.2.2.1, word_a.2.2.2]
  simp only [textF, Int.reduceEq, if_true, if_false]
  rw [show wrap32 4294967292 = -4 by unfold wrap32; omega]
  unfold regS
  rw [num_1, num_2, num_m4]
  rfl
theorem ins_a5 : insV 4263550691 6 4 = .agg #[.int .i64 6, .int .i64 0, .int .i64 1, .int .i64 2, .int .u32 4294967292, .int .i64 0] := by
  have h : immV 4263550691 4 = 4294967292 := by decide +kernel
  simp [insV, oRd, oRs1, oRs2, oCsr, h]
theorem ins_z5 : kindV 0 = 0 ∧ formV 0 = 0 ∧ insV 0 0 0 = .agg #[.int .i64 0, .int .i64 0, .int .i64 0, .int .i64 0, .int .u32 0, .int .i64 0] := by
  refine ⟨by decide +kernel, by decide +kernel, ?_⟩
  have h : immV 0 0 = 0 := by decide +kernel
  simp [insV, oRd, oRs1, oRs2, oCsr, h]
theorem word_one (W : World) (hn : NamesIs W) (hf : FormsIs W) : Calls Tryd.prog 25 #[.int .u32 4263550691] W fun e w' => e = .returned (.string ⟨#[98, 110, 101, 32, 120, 49, 44, 32, 120, 50, 44, 32, 45, 52]⟩) ∧ Below W.heap.size W w' := by
  have h1 := dec_c 4263550691 (by decide) W hf
  rw [word_a.1, word_a.2.2.1, ins_a5] at h1
  have H1 := Lib.hid h1
  have H2 := Lib.hid (fun v (hb : Below W.heap.size W v) => text_a ▸ dtext_ok 6 0 1 2 4294967292 0 (by decide) (by decide) word_a.2.1 v (hn.below hb) (hf.below hb))
  clear h1 hn hf
  go_enter Tryd.func25, Tryd.ntmps25
  go_wp2_with fail
  refine H1.out.mono ?_
  rintro e w1 ⟨rfl, hb1⟩
  have HB1 := Lib.hid hb1
  clear hb1
  go_wp2_with fail
  refine (H2.out _ HB1.out).mono ?_
  rintro e w2 ⟨rfl, hb2⟩
  go_wp2
  go_ret
  exact ⟨rfl, bthen HB1.out hb2⟩
theorem word_none (W : World) (hn : NamesIs W) (hf : FormsIs W) : Calls Tryd.prog 25 #[.int .u32 0] W fun e w' => e = .returned (.string ⟨#[46, 119, 111, 114, 100, 32, 48]⟩) ∧ Below W.heap.size W w' := by
  have h1 := dec_c 0 (by decide) W hf
  rw [ins_z5.1, ins_z5.2.1, ins_z5.2.2] at h1
  have H1 := Lib.hid h1
  have H2 := Lib.hid (fun v (hb : Below W.heap.size W v) => dtext_no 0 0 0 0 0 0 (by decide) (.inl rfl) v (hf.below hb))
  have H3 := Lib.hid (fun v => num_0 ▸ number_c 0 ⟨by decide, by decide⟩ v)
  clear h1 hn hf
  go_enter Tryd.func25, Tryd.ntmps25
  go_wp2_with fail
  refine H1.out.mono ?_
  rintro e w1 ⟨rfl, hb1⟩
  have HB1 := Lib.hid hb1
  clear hb1
  go_wp2_with fail
  refine (H2.out _ HB1.out).mono ?_
  rintro e w2 ⟨rfl, hb2⟩
  have HB2 := Lib.hid (bthen HB1.out hb2)
  clear hb2
  go_wp2_with fail
  refine (H3.out _).mono ?_
  rintro e w3 ⟨rfl, hb3⟩
  have HB3 := Lib.hid (bthen HB2.out hb3)
  clear hb3
  go_wp2
  go_ret
  exact ⟨rfl, HB3.out⟩
theorem awake5_c (W : World) (hn : NamesIs W) (hf : FormsIs W) : Calls Tryd.prog 21 #[] W fun e w' => e = .returned (.bool true) ∧ Below W.heap.size W w' := by
  have H1 := Lib.hid (word_one W hn hf)
  have H2 := Lib.hid (fun v (hb : Below W.heap.size W v) => word_none v (hn.below hb) (hf.below hb))
  have H3 := Lib.hid (fun v => num_m120 ▸ number_c (-120) ⟨by decide, by decide⟩ v)
  clear hn hf
  go_enter Tryd.func21, Tryd.ntmps21
  go_wp2_with fail
  refine H1.out.mono ?_
  rintro e w1 ⟨rfl, hb1⟩
  have HB1 := Lib.hid hb1
  clear hb1
  go_wp2_with fail
  refine (H2.out _ HB1.out).mono ?_
  rintro e w2 ⟨rfl, hb2⟩
  have HB2 := Lib.hid (bthen HB1.out hb2)
  clear hb2
  go_wp2_with fail
  refine (H3.out _).mono ?_
  rintro e w3 ⟨rfl, hb3⟩
  have HB3 := Lib.hid (bthen HB2.out hb3)
  clear hb3
  go_wp2
  go_ret
  exact ⟨rfl, HB3.out⟩
theorem dnumbers_w (n : Int) (h : I64 n) (W : World) (hn : NamesIs W) (hf : FormsIs W) : Calls Tryd.prog 4 #[.int .i64 n] W fun e w' => e = .returned (.bool true) ∧ Below W.heap.size W w' := by
  have H1 := Lib.hid (fun v => number_c n h v)
  have H2 := Lib.hid (fun v => rnumber_c n h v)
  have H3 := Lib.hid (fun v => register_c n h v)
  have H4 := Lib.hid (fun v => rregister_c n h v)
  have HA := Lib.hid (fun v (hb : Below W.heap.size W v) => awake5_c v (hn.below hb) (hf.below hb))
  clear h hn hf
  generalize numS n = x at *
  generalize regS n = y at *
  go_enter Tryd.func4, Tryd.ntmps4
  go_wp2_with fail
  refine (H1.out _).mono ?_
  rintro e w1 ⟨rfl, hb1⟩
  have HB1 := Lib.hid hb1
  clear hb1
  go_wp2_with fail
  refine (H2.out _).mono ?_
  rintro e w' ⟨rfl, ⟨nd, rfl⟩⟩
  go_wp2_with fail
  refine (H3.out _).mono ?_
  rintro e w2 ⟨rfl, hb2⟩
  have HB2 := Lib.hid (bthen (bdn HB1.out nd) hb2)
  clear hb2
  go_wp2_with fail
  refine (H4.out _).mono ?_
  rintro e w' ⟨rfl, ⟨ne, rfl⟩⟩
  go_wp2_with fail
  refine (HA.out _ (bdn HB2.out ne)).mono ?_
  rintro e w3 ⟨rfl, hb3⟩
  have HB3 := Lib.hid (bthen (bdn HB2.out ne) hb3)
  clear hb3
  go_wp2
  go_ret
  exact ⟨rfl, HB3.out⟩
theorem dtexts_w (op rd rs1 rs2 imm csr : Int) (hi : 0 ≤ imm ∧ imm ≤ 4294967295) (W : World) (hn : NamesIs W) (hf : FormsIs W) :
    Calls Tryd.prog 5 #[.agg #[.int .i64 op, .int .i64 rd, .int .i64 rs1, .int .i64 rs2, .int .u32 imm, .int .i64 csr]] W fun e w' => e = .returned (.bool true) ∧ Below W.heap.size W w' := by
  have HA := Lib.hid (fun v (hb : Below W.heap.size W v) => awake5_c v (hn.below hb) (hf.below hb))
  have hbw := bal (Below.refl W.heap.size W) (.cells #[.int .i64 op, .int .i64 rd, .int .i64 rs1, .int .i64 rs2, .int .u32 imm, .int .i64 csr] 53)
  have key : ∃ (s : ByteArray) (E : Int) (ok : Bool), ((E = 0 ∧ ok = true) ∨ (E = 9 ∧ ok = false)) ∧
      (∀ v, Below W.heap.size W v → Calls Tryd.prog 22 #[.agg #[.int .i64 op, .int .i64 rd, .int .i64 rs1, .int .i64 rs2, .int .u32 imm, .int .i64 csr]] v fun e w' => e = .returned (.tuple #[.string s, .int .i64 E]) ∧ Below v.heap.size v w') ∧
      (∀ v, Calls Tryd.prog 23 #[.agg #[.int .i64 op, .int .i64 rd, .int .i64 rs1, .int .i64 rs2, .int .u32 imm, .int .i64 csr]] v fun e w' => e = .returned (.tuple #[.string s, .bool ok]) ∧ Below v.heap.size v w') := by
    by_cases h0 : op = 0
    · exact ⟨_, 9, false, .inr ⟨rfl, rfl⟩, fun v hb => dtext_no op rd rs1 rs2 imm csr hi (.inl h0) v (hf.below hb), fun v => rtext_no op rd rs1 rs2 imm csr hi (.inl h0) v⟩
    · rcases Bool.eq_false_or_eq_true (rightB op rd rs1 rs2 imm csr) with hr | hr
      · exact ⟨_, 0, true, .inl ⟨rfl, rfl⟩, fun v hb => dtext_ok op rd rs1 rs2 imm csr hi h0 hr v (hn.below hb) (hf.below hb), fun v => rtext_ok op rd rs1 rs2 imm csr hi h0 hr v⟩
      · exact ⟨_, 9, false, .inr ⟨rfl, rfl⟩, fun v hb => dtext_no op rd rs1 rs2 imm csr hi (.inr hr) v (hf.below hb), fun v => rtext_no op rd rs1 rs2 imm csr hi (.inr hr) v⟩
  obtain ⟨s, E, ok, hE, hT, hX⟩ := key
  have HT := Lib.hid hT
  have HX := Lib.hid hX
  have HBW := Lib.hid hbw
  clear hT hX hbw hn hf hi
  go_enter Tryd.func5, Tryd.ntmps5
  go_wp2_with fail
  refine (HT.out _ HBW.out).mono ?_
  rintro e w1 ⟨rfl, hb1⟩
  have hc := (bcf hb1).1
  have HB1 := Lib.hid (bthen HBW.out hb1)
  have z1 : W.heap.size < w1.heap.size := by have := hb1.size; simp at this; omega
  have z2 : ¬ W.heap.size = w1.heap.size := by omega
  clear hb1
  go_wp2_with fail
  refine (HX.out _).mono ?_
  rintro e w2 ⟨rfl, hb2⟩
  have HB2 := Lib.hid (bthen HB1.out hb2)
  clear hb2 hc z1 z2
  rcases hE with ⟨rfl, rfl⟩ | ⟨rfl, rfl⟩
  all_goals
    go_wp2_with fail
    refine (HA.out _ HB2.out).mono ?_
    rintro e w3 ⟨rfl, hb3⟩
    have HB3 := Lib.hid (bthen HB2.out hb3)
    clear hb3
    go_wp2
    go_ret
    exact ⟨rfl, HB3.out⟩
end Go.Proofs.YtnooikjkjcflbadDoor

/- The walk of the law DisasmApart: it returns true. Conditions: numbers are of their kinds; the listed variables hold what the program's text lays in them. -/
namespace Go.Proofs.YtnooikjkjcflbadDoor
open Go.RowKit
set_option linter.unusedVariables false
set_option linter.unusedSimpArgs false

theorem pw_cell {w w1 : World} (h : Below w.heap.size w w1) {a : Addr} {v : Value} (hc : w.cell? a = some v) : w1.cell? a = some v := (h.cell (World.block_lt_of_cell? w a hc)).trans hc
set_option maxHeartbeats 8000000 in
set_option maxRecDepth 100000 in
theorem dapart_none (op rd rs1 rs2 imm csr op' rd' rs1' rs2' imm' csr' : Int) (s t : ByteArray) (E F : Int) (hEF : E = 9 ∨ (E = 0 ∧ F = 9)) (W : World) (hn : NamesIs W) (hf : FormsIs W)
    (HT : Hid (∀ v, Below W.heap.size W v → Calls Tryd.prog 22 #[.agg #[.int .i64 op, .int .i64 rd, .int .i64 rs1, .int .i64 rs2, .int .u32 imm, .int .i64 csr]] v fun e w' => e = .returned (.tuple #[.string s, .int .i64 E]) ∧ Below v.heap.size v w'))
    (HU : Hid (∀ v, Below W.heap.size W v → Calls Tryd.prog 22 #[.agg #[.int .i64 op', .int .i64 rd', .int .i64 rs1', .int .i64 rs2', .int .u32 imm', .int .i64 csr']] v fun e w' => e = .returned (.tuple #[.string t, .int .i64 F]) ∧ Below v.heap.size v w')) :
    Calls Tryd.prog 6 #[.agg #[.int .i64 op, .int .i64 rd, .int .i64 rs1, .int .i64 rs2, .int .u32 imm, .int .i64 csr], .agg #[.int .i64 op', .int .i64 rd', .int .i64 rs1', .int .i64 rs2', .int .u32 imm', .int .i64 csr']] W fun e w' => e = .returned (.bool true) ∧ Below W.heap.size W w' := by
  have HA := Lib.hid (fun v (hb : Below W.heap.size W v) => awake5_c v (hn.below hb) (hf.below hb))
  have hbw := bal (bal (Below.refl W.heap.size W) (.cells #[.int .i64 op, .int .i64 rd, .int .i64 rs1, .int .i64 rs2, .int .u32 imm, .int .i64 csr] 53)) (.cells #[.int .i64 op', .int .i64 rd', .int .i64 rs1', .int .i64 rs2', .int .u32 imm', .int .i64 csr'] 53)
  have HBW := Lib.hid hbw
  clear hbw hn hf
  go_enter Tryd.func6, Tryd.ntmps6
  go_wp2_with fail
  refine (HT.out _ HBW.out).mono ?_
  rintro e w1 ⟨rfl, hb1⟩
  have hc := (bcf hb1).1
  have HB1 := Lib.hid (bthen HBW.out hb1)
  have z1 : W.heap.size + 1 < w1.heap.size := by have := hb1.size; simp at this; omega
  have z2 : W.heap.size < w1.heap.size := by omega
  clear hb1
  go_wp2_with fail
  refine (HU.out _ HB1.out).mono ?_
  rintro e w2 ⟨rfl, hb2⟩
  have HB2 := Lib.hid (bthen HB1.out hb2)
  clear hb2 hc z1 z2
  rcases hEF with rfl | ⟨rfl, rfl⟩
  · by_cases hF : F = 0
    · subst hF
      go_wp2_with fail
      refine (HA.out _ HB2.out).mono ?_
      rintro e w3 ⟨rfl, hb3⟩
      have HB3 := Lib.hid (bthen HB2.out hb3)
      clear hb3
      go_wp2
      go_ret
      exact ⟨rfl, HB3.out⟩
    · go_wp2_with fail
      refine (HA.out _ HB2.out).mono ?_
      rintro e w3 ⟨rfl, hb3⟩
      have HB3 := Lib.hid (bthen HB2.out hb3)
      clear hb3
      go_wp2
      go_ret
      exact ⟨rfl, HB3.out⟩
  · go_wp2_with fail
    refine (HA.out _ HB2.out).mono ?_
    rintro e w3 ⟨rfl, hb3⟩
    have HB3 := Lib.hid (bthen HB2.out hb3)
    clear hb3
    go_wp2
    go_ret
    exact ⟨rfl, HB3.out⟩
/-- Both have a text: are they one instruction, or which field tells them apart? -/
def Differ (op rd rs1 rs2 imm csr op' rd' rs1' rs2' imm' csr' : Int) : Prop :=
  ¬ op = op' ∨ (op = op' ∧ ¬ rd = rd') ∨ (op = op' ∧ rd = rd' ∧ ¬ rs1 = rs1') ∨ (op = op' ∧ rd = rd' ∧ rs1 = rs1' ∧ ¬ rs2 = rs2') ∨ (op = op' ∧ rd = rd' ∧ rs1 = rs1' ∧ rs2 = rs2' ∧ ¬ imm = imm') ∨ (op = op' ∧ rd = rd' ∧ rs1 = rs1' ∧ rs2 = rs2' ∧ imm = imm' ∧ ¬ csr = csr')
set_option maxHeartbeats 8000000 in
set_option maxRecDepth 100000 in
theorem dapart_both (op rd rs1 rs2 imm csr op' rd' rs1' rs2' imm' csr' : Int) (s t : ByteArray) (hst : (op = op' ∧ rd = rd' ∧ rs1 = rs1' ∧ rs2 = rs2' ∧ imm = imm' ∧ csr = csr' ∧ s = t) ∨ (Differ op rd rs1 rs2 imm csr op' rd' rs1' rs2' imm' csr' ∧ (s.toList == t.toList) = false)) (W : World) (hn : NamesIs W) (hf : FormsIs W)
    (HT : Hid (∀ v, Below W.heap.size W v → Calls Tryd.prog 22 #[.agg #[.int .i64 op, .int .i64 rd, .int .i64 rs1, .int .i64 rs2, .int .u32 imm, .int .i64 csr]] v fun e w' => e = .returned (.tuple #[.string s, .int .i64 0]) ∧ Below v.heap.size v w'))
    (HU : Hid (∀ v, Below W.heap.size W v → Calls Tryd.prog 22 #[.agg #[.int .i64 op', .int .i64 rd', .int .i64 rs1', .int .i64 rs2', .int .u32 imm', .int .i64 csr']] v fun e w' => e = .returned (.tuple #[.string t, .int .i64 0]) ∧ Below v.heap.size v w')) :
    Calls Tryd.prog 6 #[.agg #[.int .i64 op, .int .i64 rd, .int .i64 rs1, .int .i64 rs2, .int .u32 imm, .int .i64 csr], .agg #[.int .i64 op', .int .i64 rd', .int .i64 rs1', .int .i64 rs2', .int .u32 imm', .int .i64 csr']] W fun e w' => e = .returned (.bool true) ∧ Below W.heap.size W w' := by
  have HA := Lib.hid (fun v (hb : Below W.heap.size W v) => awake5_c v (hn.below hb) (hf.below hb))
  have hbw := bal (bal (Below.refl W.heap.size W) (.cells #[.int .i64 op, .int .i64 rd, .int .i64 rs1, .int .i64 rs2, .int .u32 imm, .int .i64 csr] 53)) (.cells #[.int .i64 op', .int .i64 rd', .int .i64 rs1', .int .i64 rs2', .int .u32 imm', .int .i64 csr'] 53)
  have HBW := Lib.hid hbw
  clear hbw hn hf
  go_enter Tryd.func6, Tryd.ntmps6
  go_wp2_with fail
  refine (HT.out _ HBW.out).mono ?_
  rintro e w1 ⟨rfl, hb1⟩
  have hc := (bcf hb1).1
  have HB1 := Lib.hid (bthen HBW.out hb1)
  have z0 : W.heap.size + 2 ≤ w1.heap.size := by have := hb1.size; simp at this; omega
  have z1 : W.heap.size + 1 < w1.heap.size := by omega
  have z2 : W.heap.size < w1.heap.size := by omega
  have a0 := (hc W.heap.size 0 (by simp only [World.size_alloc]; omega)).trans (show _ = some (.int .i64 op) by simp [go_sem])
  have a1 := (hc W.heap.size 1 (by simp only [World.size_alloc]; omega)).trans (show _ = some (.int .i64 rd) by simp [go_sem])
  have a2 := (hc W.heap.size 2 (by simp only [World.size_alloc]; omega)).trans (show _ = some (.int .i64 rs1) by simp [go_sem])
  have a3 := (hc W.heap.size 3 (by simp only [World.size_alloc]; omega)).trans (show _ = some (.int .i64 rs2) by simp [go_sem])
  have a4 := (hc W.heap.size 4 (by simp only [World.size_alloc]; omega)).trans (show _ = some (.int .u32 imm) by simp [go_sem])
  have a5 := (hc W.heap.size 5 (by simp only [World.size_alloc]; omega)).trans (show _ = some (.int .i64 csr) by simp [go_sem])
  have b0 := (hc (W.heap.size + 1) 0 (by simp only [World.size_alloc]; omega)).trans (show _ = some (.int .i64 op') by simp [go_sem])
  have b1 := (hc (W.heap.size + 1) 1 (by simp only [World.size_alloc]; omega)).trans (show _ = some (.int .i64 rd') by simp [go_sem])
  have b2 := (hc (W.heap.size + 1) 2 (by simp only [World.size_alloc]; omega)).trans (show _ = some (.int .i64 rs1') by simp [go_sem])
  have b3 := (hc (W.heap.size + 1) 3 (by simp only [World.size_alloc]; omega)).trans (show _ = some (.int .i64 rs2') by simp [go_sem])
  have b4 := (hc (W.heap.size + 1) 4 (by simp only [World.size_alloc]; omega)).trans (show _ = some (.int .u32 imm') by simp [go_sem])
  have b5 := (hc (W.heap.size + 1) 5 (by simp only [World.size_alloc]; omega)).trans (show _ = some (.int .i64 csr') by simp [go_sem])
  clear hb1 hc
  go_wp2_with fail
  refine (HU.out _ HB1.out).mono ?_
  rintro e w2 ⟨rfl, hb2⟩
  have HB2 := Lib.hid (bthen HB1.out hb2)
  have a0 := pw_cell hb2 a0
  have a1 := pw_cell hb2 a1
  have a2 := pw_cell hb2 a2
  have a3 := pw_cell hb2 a3
  have a4 := pw_cell hb2 a4
  have a5 := pw_cell hb2 a5
  have b0 := pw_cell hb2 b0
  have b1 := pw_cell hb2 b1
  have b2 := pw_cell hb2 b2
  have b3 := pw_cell hb2 b3
  have b4 := pw_cell hb2 b4
  have b5 := pw_cell hb2 b5
  clear hb2 z1 z2 z0
  rcases hst with ⟨rfl, rfl, rfl, rfl, rfl, rfl, rfl⟩ | ⟨hd, hs⟩
  · go_wp2_with fail
    refine (HA.out _ HB2.out).mono ?_
    rintro e w3 ⟨rfl, hb3⟩
    have HB3 := Lib.hid (bthen HB2.out hb3)
    clear hb3
    go_wp2
    go_ret
    exact ⟨rfl, HB3.out⟩
  · rcases hd with h | ⟨rfl, h⟩ | ⟨rfl, rfl, h⟩ | ⟨rfl, rfl, rfl, h⟩ | ⟨rfl, rfl, rfl, rfl, h⟩ | ⟨rfl, rfl, rfl, rfl, rfl, h⟩
    all_goals
      have k := nb h
      go_wp2_with fail
      refine (HA.out _ HB2.out).mono ?_
      rintro e w3 ⟨rfl, hb3⟩
      have HB3 := Lib.hid (bthen HB2.out hb3)
      clear hb3
      go_wp2
      go_ret
      exact ⟨rfl, HB3.out⟩
end Go.Proofs.YtnooikjkjcflbadDoor

/- The law DisasmApart, at all instructions. Conditions: numbers are of their kinds; the listed variables hold what the program's text lays in them. -/
namespace Go.Proofs.YtnooikjkjcflbadDoor
open Go.RowKit
set_option linter.unusedVariables false
set_option linter.unusedSimpArgs false

theorem ba_ext {s t : ByteArray} (h : s.data.toList = t.data.toList) : s = t := by
  apply ByteArray.ext
  exact Array.ext' h
theorem ne_toList {s t : ByteArray} (h : ¬ s = t) : (s.toList == t.toList) = false := by
  rw [ByteArray.toList_eq, ByteArray.toList_eq, beq_eq_false_iff_ne]
  exact fun e => h (ba_ext e)
theorem text_any (op rd rs1 rs2 imm csr : Int) (hi : 0 ≤ imm ∧ imm ≤ 4294967295) (W : World) (hn : NamesIs W) (hf : FormsIs W) : ∃ (t : ByteArray) (F : Int),
    (∀ v, Below W.heap.size W v → Calls Tryd.prog 22 #[.agg #[.int .i64 op, .int .i64 rd, .int .i64 rs1, .int .i64 rs2, .int .u32 imm, .int .i64 csr]] v fun e w' => e = .returned (.tuple #[.string t, .int .i64 F]) ∧ Below v.heap.size v w') ∧
    (F = 9 ∨ (F = 0 ∧ ¬ op = 0 ∧ rightB op rd rs1 rs2 imm csr = true ∧ t = textS op rd rs1 rs2 imm csr)) := by
  by_cases h0 : op = 0
  · exact ⟨_, 9, fun v hb => dtext_no op rd rs1 rs2 imm csr hi (.inl h0) v (hf.below hb), .inl rfl⟩
  · rcases Bool.eq_false_or_eq_true (rightB op rd rs1 rs2 imm csr) with hr | hr
    · exact ⟨_, 0, fun v hb => dtext_ok op rd rs1 rs2 imm csr hi h0 hr v (hn.below hb) (hf.below hb), .inr ⟨rfl, h0, hr, rfl⟩⟩
    · exact ⟨_, 9, fun v hb => dtext_no op rd rs1 rs2 imm csr hi (.inr hr) v (hf.below hb), .inl rfl⟩
theorem dapart5_w (op rd rs1 rs2 imm csr op' rd' rs1' rs2' imm' csr' : Int) (hi : 0 ≤ imm ∧ imm ≤ 4294967295) (hi' : 0 ≤ imm' ∧ imm' ≤ 4294967295) (W : World) (hn : NamesIs W) (hf : FormsIs W) :
    Calls Tryd.prog 6 #[.agg #[.int .i64 op, .int .i64 rd, .int .i64 rs1, .int .i64 rs2, .int .u32 imm, .int .i64 csr], .agg #[.int .i64 op', .int .i64 rd', .int .i64 rs1', .int .i64 rs2', .int .u32 imm', .int .i64 csr']] W fun e w' => e = .returned (.bool true) ∧ Below W.heap.size W w' := by
  obtain ⟨s, E, hT, hE⟩ := text_any op rd rs1 rs2 imm csr hi W hn hf
  obtain ⟨t, F, hU, hF⟩ := text_any op' rd' rs1' rs2' imm' csr' hi' W hn hf
  rcases hE with rfl | ⟨rfl, h0, hr, hs⟩
  · exact dapart_none _ _ _ _ _ _ _ _ _ _ _ _ s t 9 F (.inl rfl) W hn hf (Lib.hid hT) (Lib.hid hU)
  · rcases hF with rfl | ⟨rfl, h0', hr', ht⟩
    · exact dapart_none _ _ _ _ _ _ _ _ _ _ _ _ s t 0 9 (.inr ⟨rfl, rfl⟩) W hn hf (Lib.hid hT) (Lib.hid hU)
    · refine dapart_both _ _ _ _ _ _ _ _ _ _ _ _ s t ?_ W hn hf (Lib.hid hT) (Lib.hid hU)
      by_cases hx : op = op' ∧ rd = rd' ∧ rs1 = rs1' ∧ rs2 = rs2' ∧ imm = imm' ∧ csr = csr'
      · obtain ⟨rfl, rfl, rfl, rfl, rfl, rfl⟩ := hx
        exact .inl ⟨rfl, rfl, rfl, rfl, rfl, rfl, hs.trans ht.symm⟩
      · refine .inr ⟨?_, ne_toList (fun e => hx (text_inj hi hi' hr hr' (hs.symm.trans (e.trans ht))))⟩
        unfold Differ
        by_cases h1 : op = op'
        · by_cases h2 : rd = rd'
          · by_cases h3 : rs1 = rs1'
            · by_cases h4 : rs2 = rs2'
              · by_cases h5 : imm = imm'
                · exact .inr (.inr (.inr (.inr (.inr ⟨h1, h2, h3, h4, h5, fun h6 => hx ⟨h1, h2, h3, h4, h5, h6⟩⟩))))
                · exact .inr (.inr (.inr (.inr (.inl ⟨h1, h2, h3, h4, h5⟩))))
              · exact .inr (.inr (.inr (.inl ⟨h1, h2, h3, h4⟩)))
            · exact .inr (.inr (.inl ⟨h1, h2, h3⟩))
          · exact .inr (.inl ⟨h1, h2⟩)
        · exact .inl h1
end Go.Proofs.YtnooikjkjcflbadDoor
