/- The walk of the law EncodeLists: it returns true. Conditions: numbers are of their kinds; the listed variables hold what the program's text lays in them. -/
import Derived.Test.YtnooikjkjcflbabDoorIr2
import Derived.Test.YtnooikjkjcflbabDoorIr3
import Derived.Test.YtnooikjkjcflbabDoorPc
import Derived.Test.YtnooikjkjcflbabDoorPf
import Derived.Test.YtnooikjkjcflbabDoorPg
import Derived.Test.YtnooikjkjcflbabDoorEc
import Derived.Test.YtnooikjkjcflbabDoorEd
import Derived.Test.YtnooikjkjcflbabDoorPEncodeListsx0
import Derived.Test.YtnooikjkjcflbabDoorQb
/- The wake-up of the laws of layer 2: it returns true; the two tables of forms are one. Conditions: the listed variables hold what the program's text lays in them. -/
namespace Go.Proofs.YtnooikjkjcflbabDoor
open Go.RowKit
set_option linter.unusedVariables false
set_option linter.unusedSimpArgs false

theorem hit_self : ∀ i, i < 58 → hitB (nameAt i) i = true := by decide +kernel
theorem hit_only : ∀ i, i < 58 → ∀ k, k < 58 → hitB (nameAt i) k = true → k = i := by decide +kernel
theorem opIs_name {i : Nat} (hi : i < 58) {v x : Int} (h : OpIs (nameAt i) v x) : v = i ∧ x = 0 := by
  rcases h with ⟨k, hk, hh, _, rfl, rfl⟩ | ⟨hn, _⟩
  · rw [hit_only i hi k hk hh]; exact ⟨rfl, rfl⟩
  · exact absurd ((hn i hi).symm.trans (hit_self i hi)) (by decide)
theorem form_eq : ∀ i, i < 58 → rformV ((i : Nat) : Int) = formsAt i := by decide +kernel
theorem name_remu : (nameAt 57) = ⟨#[114, 101, 109, 117]⟩ := rfl
theorem awake2_c (w : World) (hn : NamesIs w) (hf : FormsIs w) : Calls Tryd.prog 14 #[] w fun e w' => e = .returned (.bool true) ∧ Below w.heap.size w w' := by
  have HN := Lib.hid hn
  have HF := Lib.hid hf
  clear hn hf
  have e1 : nameV 18 = ⟨#[115, 119]⟩ := rfl
  have e2 : hasE 18 = 0 := rfl
  have hop := op_c (nameAt 57) w HN.out
  rw [name_remu] at hop
  have HOP := Lib.hid hop
  clear hop
  have hr : rightB 28 31 0 0 0 0 = true := by decide +kernel
  go_enter Tryd.func14, Tryd.ntmps14
  go_wp2_with (first | (go_at_call 49; refine (name_c 18 _ HN.out).mono ?_; rintro e w' ⟨rfl, rfl⟩; rw [e1, e2]) | (go_at_call 50; refine HOP.out.mono ?_; rintro e w' ⟨⟨v, x, rfl, hv⟩, rfl⟩; obtain ⟨rfl, rfl⟩ := opIs_name (i := 57) (by decide) (name_remu ▸ hv)) | (go_at_call 44; refine (right_c 28 31 0 0 0 0 (by decide) _ HF.out).mono ?_; rintro e w' ⟨rfl, hb⟩; rw [hr]))
  go_ret
  exact ⟨rfl, hb⟩
end Go.Proofs.YtnooikjkjcflbabDoor

/- The program's test of an instruction and the reference's are one. Conditions: words are words. -/
namespace Go.Proofs.YtnooikjkjcflbabDoor
open Go.RowKit
set_option linter.unusedVariables false
set_option linter.unusedSimpArgs false

theorem form_same {op : Int} (h : hasB op = true) : formV op = rformV op := by
  obtain ⟨h0, h1⟩ := has_t h
  obtain ⟨i, rfl⟩ := Int.eq_ofNat_of_zero_le h0
  rw [formV, if_pos h, form_eq i (by omega)]; rfl
theorem right_same (op rd rs1 rs2 imm csr : Int) (hi : 0 ≤ imm ∧ imm ≤ 4294967295) : rightB op rd rs1 rs2 imm csr = rrightB op rd rs1 rs2 imm csr := by
  rcases Bool.eq_false_or_eq_true (hasB op) with h | h
  · have hf := form_same h
    have hr := rform_rng op
    simp only [rightB, rrightB, h, hf, Bool.true_and]
    generalize rformV op = f at *
    clear hf h
    rcases (by omega : f = 0 ∨ f = 1 ∨ f = 2 ∨ f = 3 ∨ f = 4 ∨ f = 5 ∨ f = 6 ∨ f = 7 ∨ f = 8 ∨ f = 9) with rfl | rfl | rfl | rfl | rfl | rfl | rfl | rfl | rfl | rfl
    all_goals
      rw [Bool.eq_iff_iff]
      simp [onlyB, oRd, oRs1, oRs2, oImm, oCsr, regB, rregB, numB, evB, rimmB, rsigB]
      try grind
  · simp [rightB, rrightB, h]
end Go.Proofs.YtnooikjkjcflbabDoor

/- Contract of ref04.Encode: the word, or that there is none. Conditions: numbers are of their kinds. -/
namespace Go.Proofs.YtnooikjkjcflbabDoor
open Go.RowKit Go.Proofs.YtnooikjkjcflbabDoorW.PrintWords Go.Proofs.YtnooikjkjcflbabDoorW.PrintLast Go.Proofs.YtnooikjkjcflbabDoorW.PrintMore Go.Proofs.YtnooikjkjcflbabDoor.PDecodeWords
set_option linter.unusedVariables false
set_option linter.unusedSimpArgs false

theorem pat_mat : ∀ k, k < 57 → patX k = matchesAt (k + 1) := by decide +kernel
theorem pat_at (op : Int) (h : 1 ≤ op ∧ op < 58) : ∃ k : Nat, k < 57 ∧ op - 1 = (k : Int) ∧ patCells[k * 2 + 1]? = some (.int .u32 (matV op)) := by
  obtain ⟨k, hk⟩ := Int.eq_ofNat_of_zero_le (show 0 ≤ op - 1 by omega)
  refine ⟨k, by omega, hk, ?_⟩
  rw [(pat_cells_dec k (by omega)).2, pat_mat k (by omega)]
  unfold matV
  rw [if_pos h, show op.toNat = k + 1 by omega]
set_option maxHeartbeats 4000000 in
theorem renc_ok (op rd rs1 rs2 imm csr : Int) (hi : 0 ≤ imm ∧ imm ≤ 4294967295) (ho : ¬ op = 0) (hr : rightB op rd rs1 rs2 imm csr = true) (w : World) :
    Calls Tryd.prog 24 #[.agg #[.int .i64 op, .int .i64 rd, .int .i64 rs1, .int .i64 rs2, .int .u32 imm, .int .i64 csr]] w fun e w' => e = .returned (.tuple #[.int .u32 (encV op rd rs1 rs2 imm csr), .bool true]) ∧ Below w.heap.size w w' := by
  obtain ⟨h0, h1, h2, h3, h4, k1, k2, k3, k4, k5, k6⟩ := right_facts hr
  have hop : 1 ≤ op ∧ op < 58 := by have := has_t h0; omega
  have hM := mat_ok op hop
  have hp := pat_at op hop
  have HR : Hid (∀ v, Calls Tryd.prog 13 #[.agg #[.int .i64 op, .int .i64 rd, .int .i64 rs1, .int .i64 rs2, .int .u32 imm, .int .i64 csr]] v fun e w' => e = .returned (.bool true) ∧ Below v.heap.size v w') := Lib.hid (fun v => by
    have h := rright_c op rd rs1 rs2 imm csr hi v
    rw [← right_same op rd rs1 rs2 imm csr hi, hr] at h
    exact h)
  have HF : Hid (∀ v, Calls Tryd.prog 46 #[.int .i64 op] v fun e w' => e = .returned (.int .i64 (formV op)) ∧ v = w') := Lib.hid (fun v => by
    have h := rform_c op v
    rw [← form_same h0] at h
    exact h)
  have hfr := eform_rng op
  unfold encV
  clear hr h0 hop
  generalize formV op = f at *
  generalize matV op = M at *
  rcases (by omega : f = 0 ∨ f = 1 ∨ f = 2 ∨ f = 3 ∨ f = 4 ∨ f = 5 ∨ f = 6 ∨ f = 7 ∨ f = 8 ∨ f = 9) with rfl | rfl | rfl | rfl | rfl | rfl | rfl | rfl | rfl | rfl
  all_goals
    simp [oRd, oRs1, oRs2, oImm, oCsr] at k1 k2 k3 k4 k5
    try subst k1
    try subst k2
    try subst k3
    try subst k4
    try subst k5
    simp only [encS, Int.reduceEq, if_true, if_false]
  · exact renc_f0 op M hM ho hp w HR HF
  · exact renc_f1 op rd imm M h1 hi hM ho hp w HR HF
  · exact renc_f2 op rd imm M h1 hi hM ho hp w HR HF
  · exact renc_f3 op rd rs1 imm M h1 h2 hi hM ho hp w HR HF
  · exact renc_f4 op rs1 rs2 imm M h2 h3 hi hM ho hp w HR HF
  · exact renc_f5 op rs1 rs2 imm M h2 h3 hi hM ho hp w HR HF
  · exact renc_f6 op rd rs1 rs2 M h1 h2 h3 hM ho hp w HR HF
  · exact renc_f7 op rd rs1 imm M h1 h2 ⟨hi.1, by simpa [numB] using k6⟩ hM ho hp w HR HF
  · exact renc_f8 op rd rs1 csr M h1 h2 h4 hM ho hp w HR HF
  · exact renc_f9 op rd imm csr M h1 h4 ⟨hi.1, by simpa [numB] using k6⟩ hM ho hp w HR HF
theorem renc_no (op rd rs1 rs2 imm csr : Int) (hi : 0 ≤ imm ∧ imm ≤ 4294967295) (hn : op = 0 ∨ rightB op rd rs1 rs2 imm csr = false) (w : World) :
    Calls Tryd.prog 24 #[.agg #[.int .i64 op, .int .i64 rd, .int .i64 rs1, .int .i64 rs2, .int .u32 imm, .int .i64 csr]] w fun e w' => e = .returned (.tuple #[.int .u32 0, .bool false]) ∧ Below w.heap.size w w' := by
  by_cases h0 : op = 0
  · subst h0
    clear hn
    go_enter Tryd.func24, Tryd.ntmps24
    go_wp2
    go_ret2
    refine ⟨rfl, ?_⟩
    repeat (first | (with_reducible exact Below.refl _ _) | (with_reducible refine bal ?_ _) | (with_reducible refine Below.drew ?_) | (with_reducible refine bdn ?_ _))
  · have hr : rightB op rd rs1 rs2 imm csr = false := hn.resolve_left h0
    have HR : Hid (∀ v, Calls Tryd.prog 13 #[.agg #[.int .i64 op, .int .i64 rd, .int .i64 rs1, .int .i64 rs2, .int .u32 imm, .int .i64 csr]] v fun e w' => e = .returned (.bool false) ∧ Below v.heap.size v w') := Lib.hid (fun v => by
      have h := rright_c op rd rs1 rs2 imm csr hi v
      rw [← right_same op rd rs1 rs2 imm csr hi, hr] at h
      exact h)
    have k0 := nb h0
    clear hr hn hi h0
    go_enter Tryd.func24, Tryd.ntmps24
    go_wp2_with fail
    refine (HR.out _).mono ?_
    rintro e w1 ⟨rfl, hb1⟩
    have HB1 := Lib.hid (bthen (bal (Below.refl w.heap.size w) _) hb1)
    clear hb1
    go_wp2
    go_ret2
    exact ⟨rfl, HB1.out⟩
end Go.Proofs.YtnooikjkjcflbabDoor

/- Contract of encode.All: the instructions' words, or that they have none. Conditions: numbers are of their kinds; the listed variables hold what the program's text lays in them; at most a thousand instructions. -/
namespace Go.Proofs.YtnooikjkjcflbabDoor
open Go.RowKit Go.Proofs.YtnooikjkjcflbabDoorW.PrintWords Go.Proofs.YtnooikjkjcflbabDoorW.PrintLast Go.Proofs.YtnooikjkjcflbabDoorW.PrintMore
open Go.Proofs.YtnooikjkjcflbabDoor.PEncodeLists (S24 k24 rd_T24 at_T24 z24)
set_option linter.unusedVariables false
set_option linter.unusedSimpArgs false

theorem infoW : (Tryd.prog.info? 22).map (fun i => (i.zero, i.size, i.bytes)) = some (some (.int .u32 0), 1, 4) := by kernel_rfl
def okI (x : S24) : Bool := x.f0 != 0 && rightB x.f0 x.f1 x.f2 x.f3 x.f4 x.f5
def wordI (x : S24) : Int := encV x.f0 x.f1 x.f2 x.f3 x.f4 x.f5
theorem enc_t (x : S24) (hi : 0 ≤ x.f4 ∧ x.f4 ≤ 4294967295) (h : okI x = true) (w : World) (hf : FormsIs w) (hm : MatchesIs w) :
    Calls Tryd.prog 22 #[.agg #[.int .i64 x.f0, .int .i64 x.f1, .int .i64 x.f2, .int .i64 x.f3, .int .u32 x.f4, .int .i64 x.f5]] w fun e w' => e = .returned (.tuple #[.int .u32 (wordI x), .int .i64 0]) ∧ Below w.heap.size w w' := by
  simp only [okI, Bool.and_eq_true, bne_iff_ne] at h
  exact enc_ok _ _ _ _ _ _ hi h.1 h.2 w hf hm
theorem enc_f (x : S24) (hi : 0 ≤ x.f4 ∧ x.f4 ≤ 4294967295) (h : okI x = false) (w : World) (hf : FormsIs w) (hm : MatchesIs w) :
    Calls Tryd.prog 22 #[.agg #[.int .i64 x.f0, .int .i64 x.f1, .int .i64 x.f2, .int .i64 x.f3, .int .u32 x.f4, .int .i64 x.f5]] w fun e w' => e = .returned (.tuple #[.int .u32 0, .int .i64 9]) ∧ Below w.heap.size w w' := by
  refine enc_no _ _ _ _ _ _ hi ?_ w hf hm
  simp only [okI, Bool.and_eq_false_iff, bne_eq_false_iff_eq] at h
  exact h
/-- What All answers. -/
def AllIs (xs : List S24) (v : Value) (E : Int) (base : Nat) (w' : World) : Prop :=
  (xs.all okI = true ∧ E = 0 ∧ Kd.R (Kd.int .u32) 22 w' base (fun _ => True) v (xs.map wordI)) ∨ (xs.all okI = false ∧ E = 9 ∧ v = .slice none 0 0)
theorem rd_at (xs : List S24) (k : Nat) (h : k < xs.length) : rd_T24 xs (k : Int) = xs[k] := by
  simp [rd_T24, h]
theorem take_map (xs : List S24) (k : Nat) (h : k < xs.length) : (xs.map wordI).take (k + 1) = (xs.map wordI).take k ++ [wordI (rd_T24 xs (k : Int))] := by
  rw [rd_at xs k h, List.take_succ_eq_append_getElem (by simpa using h), List.getElem_map]
theorem all_false (xs : List S24) (k : Nat) (h : k < xs.length) (hn : okI (rd_T24 xs (k : Int)) = false) : xs.all okI = false := by
  rw [rd_at xs k h] at hn
  rw [List.all_eq_false]
  exact ⟨_, List.getElem_mem h, by rw [hn]; decide⟩
theorem all_true (xs : List S24) (h : ∀ j, j < xs.length → okI (rd_T24 xs (j : Int)) = true) : xs.all okI = true := by
  rw [List.all_eq_true]
  intro x hx
  obtain ⟨j, hj, rfl⟩ := List.mem_iff_getElem.1 hx
  rw [← rd_at xs j hj]
  exact h j hj
set_option maxHeartbeats 8000000 in
set_option maxRecDepth 100000 in
theorem eall_c (A : Option Addr) (c : Nat) (xs : List S24) (hl : xs.length ≤ 1000) (w : World) (hC : Kd.C k24 w A xs.length xs) (hi : ∀ x ∈ xs, 0 ≤ x.f4 ∧ x.f4 ≤ 4294967295) (hf : FormsIs w) (hm : MatchesIs w) :
    Calls Tryd.prog 36 #[.slice A xs.length c] w fun e w' => (∃ v E, e = .returned (.tuple #[v, .int .i64 E]) ∧ AllIs xs v E w.heap.size w') ∧ Below w.heap.size w w' := by
  have HF := Lib.hid hf
  have HM := Lib.hid hm
  have HC := Lib.hid hC
  have HI := Lib.hid hi
  clear hf hm hC hi
  go_enter Tryd.func36, Tryd.ntmps36
  go_wp2
  go_loopw [4, 11] (fun v i wr => ∃ k : Nat, k ≤ xs.length ∧ i = .int .i64 k ∧ Hid (∀ j, j < k → okI (rd_T24 xs (j : Int)) = true) ∧ Hid (Kd.R (Kd.int .u32) 22 wr w.heap.size (fun _ => True) v ((xs.map wordI).take k)) ∧ Hid (Below w.heap.size w wr)) (fun _ i _ => xs.length - (intOf i).toNat)
  case atStart => exact ⟨0, Nat.zero_le _, rfl, Lib.hid (fun j h => by omega), Lib.hid (Kd.R_nil _ _ _ _ _), Lib.hid (Below.refl _ _)⟩
  case round =>
    obtain ⟨k, hk, rfl, HOK, HR, HB⟩ := hrel
    by_cases hlt : k < xs.length
    · obtain ⟨ad, rfl, c0, c1, c2, c3, c4, c5⟩ := at_T24 (Kd.C_below HC.out HB.out) (k : Int) (by omega) (by omega)
      have hy := HI.out (rd_T24 xs (k : Int)) (by rw [rd_at xs k hlt]; exact List.getElem_mem hlt)
      have HT := Lib.hid (take_map xs k hlt)
      have HA := Lib.hid (all_false xs k hlt)
      have hok : okI (rd_T24 xs (k : Int)) = true → ∀ j, j < k + 1 → okI (rd_T24 xs (j : Int)) = true := fun h j hj => by
        rcases Nat.lt_succ_iff_lt_or_eq.mp hj with h' | h'
        · exact HOK.out j h'
        · subst h'; exact h
      have HOK' := Lib.hid hok
      clear hok
      simp only [Int.toNat_natCast] at c0 c1 c2 c3 c4 c5
      have HE := Lib.hid (fun h => enc_t (rd_T24 xs (k : Int)) hy h)
      have HN := Lib.hid (fun h => enc_f (rd_T24 xs (k : Int)) hy h)
      clear hy
      generalize rd_T24 xs (k : Int) = y at *
      rcases Bool.eq_false_or_eq_true (okI y) with ho | ho
      · have HE' := Lib.hid (HE.out ho)
        have HOK2 := Lib.hid (HOK'.out ho)
        clear HE HN HOK' HA ho
        go_wp2_with fail
        refine (HE'.out _ (HF.out.below (bal HB.out _)) (HM.out.below (bal HB.out _))).mono ?_
        rintro e w1 ⟨rfl, hb1⟩
        have HB1 := Lib.hid (bthen (bal HB.out _) hb1)
        have HR1 := Lib.hid (Kd.R_below (Kd.R_alloc HR.out _) hb1)
        clear hb1
        go_wp2_with (at_builtin; refine Kd.R_append (Kd.int .u32) (w0 := w) w.heap.size rfl _ _ 65 22 (.int .u32 0) 4 rfl Tryd.underlying65 infoW rfl (by decide) (by decide) u4 ((xs.map wordI).take k) (wordI y) [.int .u32 (wordI y)] (fun _ => True) (fun _ => False) rfl rfl (by exact rfl) (fun _ hk => hk.elim) (fun _ _ => trivial) HR1.out HB1.out HB1.out.size (by simp; omega) ?_)
        intro v1 w2 ho2 hb2 _ _
        have HR2 := Lib.hid ho2
        have HB2 := Lib.hid hb2
        clear ho2 hb2
        go_wp2
        go_roundw
        case rel => exact ⟨k + 1, by omega, by go_num, HOK2, Lib.hid (by rw [HT.out]; exact HR2.out), HB2⟩
        case measure => simp [intOf]; omega
      · have HN' := Lib.hid (HN.out ho)
        have HA' := Lib.hid (HA.out ho)
        clear HE HN HOK' HA ho
        go_wp2_with fail
        refine (HN'.out _ (HF.out.below (bal HB.out _)) (HM.out.below (bal HB.out _))).mono ?_
        rintro e w1 ⟨rfl, hb1⟩
        have HB1 := Lib.hid (bthen (bal HB.out _) hb1)
        clear hb1
        go_wp2
        go_ret2
        exact ⟨⟨_, _, rfl, .inr ⟨HA'.out, rfl, rfl⟩⟩, HB1.out⟩
    · obtain rfl : k = xs.length := by omega
      have HR' := Lib.hid (by have := HR.out; rw [List.take_of_length_le (by simp)] at this; exact this)
      have HA := Lib.hid (all_true xs HOK.out)
      go_wp2
      go_ret2
      exact ⟨⟨_, _, rfl, .inl ⟨HA.out, rfl, HR'.out⟩⟩, HB.out⟩
end Go.Proofs.YtnooikjkjcflbabDoor

/- Contracts of encode.Bytes and of the reference's Bytes and SameBytes. Conditions: numbers are of their kinds; the listed variables hold what the program's text lays in them; at most a thousand instructions. -/
namespace Go.Proofs.YtnooikjkjcflbabDoor
open Go.RowKit Go.Proofs.YtnooikjkjcflbabDoorW.PrintWords Go.Proofs.YtnooikjkjcflbabDoorW.PrintLast Go.Proofs.YtnooikjkjcflbabDoorW.PrintMore
open Go.Proofs.YtnooikjkjcflbabDoor.PEncodeLists (S24 k24 rd_T24 at_T24 z24 mimesisref01_Power.f mimesisref01_Bytes.f mimesisref01_Bytes.l0 mimesisref01_Bytes.calls mimesisref01_SameBytes.f mimesisref01_SameBytes.l0 mimesisref01_SameBytes.calls)
set_option linter.unusedVariables false
set_option linter.unusedSimpArgs false

theorem infoB : (Tryd.prog.info? 5).map (fun i => (i.zero, i.size, i.bytes)) = some (some (.int .u8 0), 1, 1) := by kernel_rfl
def bytesW (x : Int) : List Int := [x % 256, x / 256 % 256, x / 65536 % 256, x / 16777216 % 256]
theorem C_nums (W : World) (e : Nat) (ys : List Int) (h : ys.length ≤ 9223372036854775807) : (Kd.int .u8).C (W.alloc (.cells (nums .u8 ys).toArray e)) (some ⟨W.heap.size, 0, none⟩) ys.length ys :=
  ⟨rfl, h, fun _ => ⟨_, rfl, fun j p hj => ⟨[.int .u8 p], rfl, rfl, fun i u hu => by
    cases i with
    | zero =>
      simp only [List.getElem?_cons_zero, Option.some.injEq] at hu
      subst hu
      rw [add_plain, show j * (Kd.int .u8).sz + 0 = j from Nat.mul_one j]
      simp [go_sem, nums, hj]
    | succ i => simp at hu⟩⟩⟩
theorem take_bytes (ws : List Int) (k : Nat) (h : k < ws.length) : ((ws.take (k + 1)).flatMap bytesW) = (ws.take k).flatMap bytesW ++ bytesW (rd ws (k : Int)) := by
  rw [List.take_succ_eq_append_getElem h, List.flatMap_append]
  simp [rd, h]
theorem bytes_len (ws : List Int) (k : Nat) : ((ws.take k).flatMap bytesW).length ≤ 4 * ws.length := by
  have h1 : ∀ l : List Int, (l.flatMap bytesW).length = 4 * l.length := by
    intro l
    induction l with
    | nil => rfl
    | cons x l ih => rw [List.flatMap_cons, List.length_append, ih]; simp [bytesW]; omega
  rw [h1, List.length_take]
  omega
/-- What Bytes answers. -/
def BytesIs (xs : List S24) (v : Value) (E : Int) (base : Nat) (w' : World) : Prop :=
  (xs.all okI = true ∧ E = 0 ∧ Kd.R (Kd.int .u8) 5 w' base (fun _ => True) v ((xs.map wordI).flatMap bytesW)) ∨ (xs.all okI = false ∧ E = 9 ∧ v = .slice none 0 0)
set_option maxHeartbeats 8000000 in
set_option maxRecDepth 100000 in
theorem ebytes_c (A : Option Addr) (c : Nat) (xs : List S24) (hl : xs.length ≤ 1000) (w : World) (hC : Kd.C k24 w A xs.length xs) (hi : ∀ x ∈ xs, 0 ≤ x.f4 ∧ x.f4 ≤ 4294967295) (hf : FormsIs w) (hm : MatchesIs w) :
    Calls Tryd.prog 37 #[.slice A xs.length c] w fun e w' => (∃ v E, e = .returned (.tuple #[v, .int .i64 E]) ∧ BytesIs xs v E w.heap.size w') ∧ Below w.heap.size w w' := by
  have HA := Lib.hid (eall_c A c xs hl w hC hi hf hm)
  clear hC hi hf hm
  go_enter Tryd.func37, Tryd.ntmps37
  go_wp2_with fail
  refine HA.out.mono ?_
  rintro e w1 ⟨⟨v, E, rfl, hv⟩, hb1⟩
  have HB1 := Lib.hid hb1
  clear hb1
  rcases hv with ⟨hall, rfl, hR⟩ | ⟨hall, rfl, rfl⟩
  · obtain ⟨A1, c1, rfl, hc1, hC1⟩ := Kd.R_reads hR
    obtain ⟨ws, hws⟩ : ∃ ws, ws = xs.map wordI := ⟨_, rfl⟩
    rw [← hws] at hC1 hc1 ⊢
    have hlw : ws.length ≤ 1000 := by rw [hws]; simpa using hl
    have HC1 := Lib.hid hC1
    have HWS := Lib.hid hws
    clear hR hC1 hc1 hws
    go_wp2
    go_loopw [6, 19] (fun v i wr => ∃ k : Nat, k ≤ ws.length ∧ i = .int .i64 k ∧ Hid (Kd.R (Kd.int .u8) 5 wr w1.heap.size (fun _ => True) v ((ws.take k).flatMap bytesW)) ∧ Hid (Below w1.heap.size w1 wr)) (fun _ i _ => ws.length - (intOf i).toNat)
    case atStart => exact ⟨0, Nat.zero_le _, rfl, Lib.hid (Kd.R_nil _ _ _ _ _), Lib.hid (Below.refl _ _)⟩
    case round =>
      obtain ⟨k, hk, rfl, HR, HB⟩ := hrel
      by_cases hlt : k < ws.length
      · obtain ⟨ad, rfl, c0⟩   := Kd.at_int (Kd.C_below HC1.out HB.out) (k : Int) (by omega) (by omega)
        have HT := Lib.hid (take_bytes ws k hlt)
        have HN := Lib.hid (bytes_len ws k)
        simp only [Int.toNat_natCast] at c0
        generalize rd ws (k : Int) = y at *
        go_wp2_with (at_builtin; refine Kd.R_append_row (Value.int .u8) (0 : Int) (w0 := w1) w1.heap.size rfl _ _ 68 5 (.int .u8 0) 1 rfl Tryd.underlying68 infoB rfl (by decide) u6 ((ws.take k).flatMap bytesW) (bytesW y) (some ⟨wr.heap.size, 0, none⟩) 4 4 (fun _ => True) rfl rfl (fun _ _ => trivial) (Kd.R_alloc HR.out _) (C_nums wr 5 (bytesW y) (by simp [bytesW])) (bal HB.out _) (bal HB.out _).size (by have := HN.out; omega) ?_)
        intro v1 w2 ho2 hb2 _ _
        have HR2 := Lib.hid ho2
        have HB2 := Lib.hid hb2
        clear ho2 hb2
        go_wp2
        go_roundw
        case rel => exact ⟨k + 1, by omega, by go_num, Lib.hid (by rw [HT.out]; exact HR2.out), HB2⟩
        case measure => simp [intOf]; omega
      · obtain rfl : k = ws.length := by omega
        have HR' := Lib.hid (by have := HR.out; rw [List.take_length] at this; exact this)
        have HZ := Lib.hid HB1.out.size
        go_wp2
        go_ret2
        exact ⟨⟨_, _, rfl, .inl ⟨hall, rfl, by rw [← HWS.out]; exact Kd.R_lower HR'.out HZ.out⟩⟩, bthen HB1.out HB.out⟩
  · go_wp2
    go_ret2
    exact ⟨⟨_, _, rfl, .inr ⟨hall, rfl, rfl⟩⟩, HB1.out⟩
end Go.Proofs.YtnooikjkjcflbabDoor

/- Proved: the range of an instruction's word; the reference's Bytes and SameBytes, printed, at what the law asks. Conditions: numbers are of their kinds. -/
namespace Go.Proofs.YtnooikjkjcflbabDoor
open Go.RowKit Go.Proofs.YtnooikjkjcflbabDoorW.PrintWords Go.Proofs.YtnooikjkjcflbabDoorW.PrintLast Go.Proofs.YtnooikjkjcflbabDoorW.PrintMore
open Go.Proofs.YtnooikjkjcflbabDoor.PEncodeLists (S24 k24 rd_T24 at_T24 z24 mimesisref01_Power.f mimesisref01_Bytes.f mimesisref01_Bytes.l0 mimesisref01_Bytes.calls mimesisref01_SameBytes.f mimesisref01_SameBytes.l0 mimesisref01_SameBytes.calls)
set_option linter.unusedVariables false
set_option linter.unusedSimpArgs false

set_option maxHeartbeats 2000000 in
theorem enc_rng (f M rd rs1 rs2 imm csr : Int) (hf : 0 ≤ f ∧ f ≤ 9) (hM : MatOk f M) (h1 : 0 ≤ rd ∧ rd ≤ 31) (h2 : 0 ≤ rs1 ∧ rs1 ≤ 31) (h3 : 0 ≤ rs2 ∧ rs2 ≤ 31) (h4 : 0 ≤ csr ∧ csr ≤ 4095) : 0 ≤ encS f M rd rs1 rs2 imm csr ∧ encS f M rd rs1 rs2 imm csr ≤ 4294967295 := by
  obtain ⟨m0, m1, m2, m3, m4⟩ := hM
  rcases (by omega : f = 0 ∨ f = 1 ∨ f = 2 ∨ f = 3 ∨ f = 4 ∨ f = 5 ∨ f = 6 ∨ f = 7 ∨ f = 8 ∨ f = 9) with rfl | rfl | rfl | rfl | rfl | rfl | rfl | rfl | rfl | rfl
  all_goals
    simp only [encS, Int.reduceEq, if_true, if_false]
    try have m2 := m2 (by decide)
    try have m3 := m3 (by decide)
    try have m4 := m4 (by decide)
    omega
theorem word_rng (x : S24) (h : okI x = true) : 0 ≤ wordI x ∧ wordI x ≤ 4294967295 := by
  simp only [okI, Bool.and_eq_true, bne_iff_ne] at h
  obtain ⟨h0, h1, h2, h3, h4, _⟩ := right_facts h.2
  have := has_t h0
  exact enc_rng _ _ _ _ _ _ _ (eform_rng _) (mat_ok _ (by omega)) h1 h2 h3 h4
theorem renc_t (x : S24) (hi : 0 ≤ x.f4 ∧ x.f4 ≤ 4294967295) (h : okI x = true) (w : World) :
    Calls Tryd.prog 24 #[.agg #[.int .i64 x.f0, .int .i64 x.f1, .int .i64 x.f2, .int .i64 x.f3, .int .u32 x.f4, .int .i64 x.f5]] w fun e w' => e = .returned (.tuple #[.int .u32 (wordI x), .bool true]) ∧ Below w.heap.size w w' := by
  simp only [okI, Bool.and_eq_true, bne_iff_ne] at h
  exact renc_ok _ _ _ _ _ _ hi h.1 h.2 w
theorem renc_f (x : S24) (hi : 0 ≤ x.f4 ∧ x.f4 ≤ 4294967295) (h : okI x = false) (w : World) :
    Calls Tryd.prog 24 #[.agg #[.int .i64 x.f0, .int .i64 x.f1, .int .i64 x.f2, .int .i64 x.f3, .int .u32 x.f4, .int .i64 x.f5]] w fun e w' => e = .returned (.tuple #[.int .u32 0, .bool false]) ∧ Below w.heap.size w w' := by
  refine renc_no _ _ _ _ _ _ hi ?_ w
  simp only [okI, Bool.and_eq_false_iff, bne_eq_false_iff_eq] at h
  exact h
theorem rb_step (k : Nat) (x i p : Int) (acc : List Int) (hi : i < 4) (hp : mimesisref01_Power.f k (wrap64 (8 * i)) = some p) (h0 : ¬ p = 0) (hl : acc.length < 140737488355328) :
    mimesisref01_Bytes.l0 (k + 1) x 4 acc i = mimesisref01_Bytes.l0 k x 4 (acc ++ [(Int.tmod (IntKind.u64.wrap (Int.tdiv (IntKind.u64.wrap (x)) p)) 256) % 256]) (wrap64 (i + 1)) := by
  simp only [mimesisref01_Bytes.l0]
  rw [if_pos hi, hp]
  simp only [Option.bind_some]
  rw [if_neg h0, if_pos hl]
theorem pow_dec : mimesisref01_Power.f 43 (wrap64 (8 * 0)) = some 1 ∧ mimesisref01_Power.f 42 (wrap64 (8 * 1)) = some 256 ∧ mimesisref01_Power.f 41 (wrap64 (8 * 2)) = some 65536 ∧ mimesisref01_Power.f 40 (wrap64 (8 * 3)) = some 16777216 := by decide +kernel
theorem byte_at (x p : Int) (hx : 0 ≤ x ∧ x ≤ 4294967295) (hp : 0 < p) : (Int.tmod (IntKind.u64.wrap (Int.tdiv (IntKind.u64.wrap (x)) p)) 256) % 256 = x / p % 256 := by
  have u0 : IntKind.u64.wrap x = x := IntWalk.u64_in _ (by omega)
  have q0 : 0 ≤ x / p := Int.ediv_nonneg hx.1 (Int.le_of_lt hp)
  have q1 : x / p ≤ x := Int.ediv_le_self _ hx.1
  have u1 : IntKind.u64.wrap (x / p) = x / p := IntWalk.u64_in _ (by omega)
  rw [u0, Int.tdiv_eq_ediv_of_nonneg hx.1, u1, Int.tmod_eq_emod_of_nonneg q0]
  omega
theorem rbytes_f (x : Int) (hx : 0 ≤ x ∧ x ≤ 4294967295) : mimesisref01_Bytes.f 44 x 4 = some (bytesW x) := by
  have e : mimesisref01_Bytes.f 44 x 4 = mimesisref01_Bytes.l0 (43 + 1) x 4 [] 0 := rfl
  rw [e, rb_step 43 x 0 1 [] (by decide) pow_dec.1 (by decide) (by decide), show wrap64 (0 + 1) = 1 by unfold wrap64; omega, show (43 : Nat) = 42 + 1 from rfl,
    rb_step 42 x 1 256 _ (by decide) pow_dec.2.1 (by decide) (by simp), show wrap64 (1 + 1) = 2 by unfold wrap64; omega, show (42 : Nat) = 41 + 1 from rfl,
    rb_step 41 x 2 65536 _ (by decide) pow_dec.2.2.1 (by decide) (by simp), show wrap64 (2 + 1) = 3 by unfold wrap64; omega, show (41 : Nat) = 40 + 1 from rfl,
    rb_step 40 x 3 16777216 _ (by decide) pow_dec.2.2.2 (by decide) (by simp), show wrap64 (3 + 1) = 4 by unfold wrap64; omega, show (40 : Nat) = 39 + 1 from rfl,
    byte_at x 1 hx (by decide), byte_at x 256 hx (by decide), byte_at x 65536 hx (by decide), byte_at x 16777216 hx (by decide)]
  simp [mimesisref01_Bytes.l0, bytesW]
theorem same_l0 (l : List Int) (hl : l.length ≤ 100000) : ∀ (d k i : Nat), l.length - i ≤ d → d < k → i ≤ l.length → mimesisref01_SameBytes.l0 k l l (i : Int) = some true := by
  intro d
  induction d with
  | zero =>
    intro k i h1 h2 h3
    obtain ⟨k, rfl⟩ : ∃ m, k = m + 1 := ⟨k - 1, by omega⟩
    simp only [mimesisref01_SameBytes.l0]
    rw [if_neg (by omega)]
  | succ d ih =>
    intro k i h1 h2 h3
    obtain ⟨k, rfl⟩ : ∃ m, k = m + 1 := ⟨k - 1, by omega⟩
    simp only [mimesisref01_SameBytes.l0]
    by_cases h : (i : Int) < (l.length : Int)
    · rw [if_pos h, if_pos (by omega), if_pos h, if_pos trivial, show wrap64 ((i : Int) + 1) = ((i + 1 : Nat) : Int) by unfold wrap64; omega]
      exact ih k (i + 1) (by omega) (by omega) (by omega)
    · rw [if_neg h]
theorem same_f (l : List Int) (hl : l.length ≤ 100000) : mimesisref01_SameBytes.f (l.length + 1) l l = some true := by
  unfold mimesisref01_SameBytes.f
  rw [if_pos rfl]
  exact same_l0 l hl l.length _ 0 (by omega) (by omega) (by omega)
end Go.Proofs.YtnooikjkjcflbabDoor

/- The walk of the law EncodeLists: it returns true. Conditions: numbers are of their kinds; the listed variables hold what the program's text lays in them. -/
namespace Go.Proofs.YtnooikjkjcflbabDoor
open Go.RowKit Go.Proofs.YtnooikjkjcflbabDoorW.PrintWords Go.Proofs.YtnooikjkjcflbabDoorW.PrintLast Go.Proofs.YtnooikjkjcflbabDoorW.PrintMore
open Go.Proofs.YtnooikjkjcflbabDoor.PEncodeLists (S24 k24 rd_T24 at_T24 z24 mimesisref01_Power.f mimesisref01_Bytes.f mimesisref01_Bytes.l0 mimesisref01_Bytes.calls mimesisref01_SameBytes.f mimesisref01_SameBytes.l0 mimesisref01_SameBytes.calls)
set_option linter.unusedVariables false
set_option linter.unusedSimpArgs false

theorem R_empty (W : World) : Kd.R (Kd.int .u8) 5 (W.alloc (.cells #[] 5)) W.heap.size (fun _ => True) (.slice (some ⟨W.heap.size, 0, none⟩) 0 0) [] :=
  Kd.R_of_own (enc := Value.int .u8) (World.ownsRow_made W #[] 0 (Nat.le_refl _) (by decide) rfl) (fun _ _ => trivial)
theorem elists_long (A : Option Addr) (n c : Nat) (hl : 1000 < (n : Int)) (W : World) (hf : FormsIs W) (hm : MatchesIs W) :
    Calls Tryd.prog 8 #[.slice A n c] W fun e w' => e = .returned (.bool true) ∧ Below W.heap.size W w' := by
  have HAW := Lib.hid (awake4_c W hf hm)
  clear hf hm
  go_enter Tryd.func8, Tryd.ntmps8
  go_wp2_with fail
  refine HAW.out.mono ?_
  rintro e w1 ⟨rfl, hb1⟩
  go_wp2
  go_ret
  exact ⟨rfl, hb1⟩
set_option maxHeartbeats 8000000 in
set_option maxRecDepth 100000 in
theorem elists_no (A : Option Addr) (c : Nat) (xs : List S24) (hl : xs.length ≤ 1000) (hall : xs.all okI = false) (W : World) (hC : Kd.C k24 W A xs.length xs) (hi : ∀ x ∈ xs, 0 ≤ x.f4 ∧ x.f4 ≤ 4294967295) (hf : FormsIs W) (hm : MatchesIs W) :
    Calls Tryd.prog 8 #[.slice A xs.length c] W fun e w' => e = .returned (.bool true) ∧ Below W.heap.size W w' := by
  have HA := Lib.hid (fun v (hb : Below W.heap.size W v) => eall_c A c xs hl v (Kd.C_below hC hb) hi (hf.below hb) (hm.below hb))
  have HB := Lib.hid (fun v (hb : Below W.heap.size W v) => ebytes_c A c xs hl v (Kd.C_below hC hb) hi (hf.below hb) (hm.below hb))
  have HAW := Lib.hid (fun v (hb : Below W.heap.size W v) => awake4_c v (hf.below hb) (hm.below hb))
  have HC := Lib.hid (fun v (hb : Below W.heap.size W v) => Kd.C_below hC hb)
  have HI := Lib.hid hi
  have HALL := Lib.hid hall
  have hl2 : ¬ (1000 : Int) < (xs.length : Int) := by omega
  clear hf hm hC hi hall
  go_enter Tryd.func8, Tryd.ntmps8
  go_wp2_with fail
  refine (HA.out _ (Below.refl _ _)).mono ?_
  rintro e w1 ⟨⟨v, E, rfl, hv⟩, hb1⟩
  have HB1 := Lib.hid hb1
  clear hb1
  obtain ⟨rfl, rfl⟩ : E = 9 ∧ v = .slice none 0 0 := by
    rcases hv with ⟨h, _⟩ | ⟨_, h1, h2⟩
    · rw [HALL.out] at h; cases h
    · exact ⟨h1, h2⟩
  clear hv
  go_wp2_with fail
  refine (HB.out _ HB1.out).mono ?_
  rintro e w2 ⟨⟨v, E, rfl, hv⟩, hb2⟩
  have HB2 := Lib.hid (bthen HB1.out hb2)
  clear hb2
  obtain ⟨rfl, rfl⟩ : E = 9 ∧ v = .slice none 0 0 := by
    rcases hv with ⟨h, _⟩ | ⟨_, h1, h2⟩
    · rw [HALL.out] at h; cases h
    · exact ⟨h1, h2⟩
  clear hv
  go_wp2
  go_loopw [8] (fun i wr => ∃ k : Nat, k ≤ xs.length ∧ i = .int .i64 k ∧ Hid (∀ j, j < k → okI (rd_T24 xs (j : Int)) = true) ∧ Hid (Below W.heap.size W wr)) (fun i _ => xs.length - (intOf i).toNat)
  case atStart => exact ⟨0, Nat.zero_le _, rfl, Lib.hid (fun j h => by omega), Lib.hid (bal HB2.out _)⟩
  case round =>
    obtain ⟨k, hk, rfl, HOK, HBR⟩ := hrel
    by_cases hlt : k < xs.length
    · obtain ⟨ad, rfl, c0, c1, c2, c3, c4, c5⟩ := at_T24 (HC.out _ HBR.out) (k : Int) (by omega) (by omega)
      have hy := HI.out (rd_T24 xs (k : Int)) (by rw [rd_at xs k hlt]; exact List.getElem_mem hlt)
      have hok : okI (rd_T24 xs (k : Int)) = true → ∀ j, j < k + 1 → okI (rd_T24 xs (j : Int)) = true := fun h j hj => by
        rcases Nat.lt_succ_iff_lt_or_eq.mp hj with h' | h'
        · exact HOK.out j h'
        · subst h'; exact h
      have HOK' := Lib.hid hok
      clear hok
      simp only [Int.toNat_natCast] at c0 c1 c2 c3 c4 c5
      have HE := Lib.hid (fun h => renc_t (rd_T24 xs (k : Int)) hy h)
      have HN := Lib.hid (fun h => renc_f (rd_T24 xs (k : Int)) hy h)
      clear hy
      generalize rd_T24 xs (k : Int) = y at *
      rcases Bool.eq_false_or_eq_true (okI y) with ho | ho
      · have HE' := Lib.hid (HE.out ho)
        have HOK2 := Lib.hid (HOK'.out ho)
        clear HE HN HOK' ho
        go_wp2_with fail
        refine (HE'.out _).mono ?_
        rintro e w3 ⟨rfl, hb3⟩
        have HB3 := Lib.hid (bthen HBR.out hb3)
        clear hb3
        go_wp2
        go_roundw
        case rel => exact ⟨k + 1, by omega, by go_num, HOK2, HB3⟩
        case measure => simp [intOf]; omega
      · have HN' := Lib.hid (HN.out ho)
        clear HE HN HOK' ho
        go_wp2_with fail
        refine (HN'.out _).mono ?_
        rintro e w3 ⟨rfl, hb3⟩
        have HB3 := Lib.hid (bthen HBR.out hb3)
        clear hb3
        go_wp2_with (go_at_call 25; refine (HAW.out _ HB3.out).mono ?_; rintro e w4 ⟨rfl, hb4⟩)
        go_ret
        exact ⟨rfl, bthen HB3.out hb4⟩
    · obtain rfl : k = xs.length := by omega
      have := all_true xs HOK.out
      rw [HALL.out] at this
      cases this
set_option maxHeartbeats 8000000 in
set_option maxRecDepth 100000 in
theorem elists_ok (A : Option Addr) (c : Nat) (xs : List S24) (hl : xs.length ≤ 1000) (hall : xs.all okI = true) (W : World) (hC : Kd.C k24 W A xs.length xs) (hi : ∀ x ∈ xs, 0 ≤ x.f4 ∧ x.f4 ≤ 4294967295) (hf : FormsIs W) (hm : MatchesIs W) :
    Calls Tryd.prog 8 #[.slice A xs.length c] W fun e w' => e = .returned (.bool true) ∧ Below W.heap.size W w' := by
  have HA := Lib.hid (fun v (hb : Below W.heap.size W v) => eall_c A c xs hl v (Kd.C_below hC hb) hi (hf.below hb) (hm.below hb))
  have HB := Lib.hid (fun v (hb : Below W.heap.size W v) => ebytes_c A c xs hl v (Kd.C_below hC hb) hi (hf.below hb) (hm.below hb))
  have HAW := Lib.hid (fun v (hb : Below W.heap.size W v) => awake4_c v (hf.below hb) (hm.below hb))
  have HC := Lib.hid (fun v (hb : Below W.heap.size W v) => Kd.C_below hC hb)
  have HI := Lib.hid hi
  have HALL := Lib.hid hall
  have hl2 : ¬ (1000 : Int) < (xs.length : Int) := by omega
  have HOKAT : Hid (∀ k, k < xs.length → okI (rd_T24 xs (k : Int)) = true) := Lib.hid (fun k h => by rw [rd_at xs k h]; exact List.all_eq_true.1 hall _ (List.getElem_mem h))
  clear hf hm hC hi hall
  go_enter Tryd.func8, Tryd.ntmps8
  go_wp2_with fail
  refine (HA.out _ (Below.refl _ _)).mono ?_
  rintro e w1 ⟨⟨v, E, rfl, hv⟩, hb1⟩
  have HB1 := Lib.hid hb1
  clear hb1
  obtain ⟨ws, hws⟩ : ∃ ws, ws = xs.map wordI := ⟨_, rfl⟩
  have hlw : ws.length = xs.length := by rw [hws]; simp
  have hwat : ∀ k, k < xs.length → rd ws (k : Int) = wordI (rd_T24 xs (k : Int)) := fun k h => by rw [hws, rd_at xs k h]; simp [rd, h]
  have HWAT := Lib.hid hwat
  clear hwat
  obtain ⟨rfl, A1, c1, rfl, hc1, hC1⟩ : E = 0 ∧ ∃ A1 c1, v = .slice A1 xs.length c1 ∧ xs.length ≤ c1 ∧ (Kd.int .u32).C w1 A1 xs.length ws := by
    rcases hv with ⟨_, h0, hR⟩ | ⟨h, _⟩
    · obtain ⟨A1, c1, h1, h2, h3⟩ := Kd.R_reads hR
      rw [← hws, hlw] at h1 h2 h3
      exact ⟨h0, A1, c1, h1, h2, h3⟩
    · rw [HALL.out] at h; cases h
  clear hv
  have HC1 := Lib.hid hC1
  clear hC1
  go_wp2_with fail
  refine (HB.out _ HB1.out).mono ?_
  rintro e w2 ⟨⟨v, E, rfl, hv⟩, hb2⟩
  have HB12 := Lib.hid hb2
  have HB2 := Lib.hid (bthen HB1.out hb2)
  clear hb2
  obtain ⟨bs, hbs⟩ : ∃ bs, bs = ws.flatMap bytesW := ⟨_, rfl⟩
  have hbl : bs.length ≤ 100000 := by
    have := bytes_len ws ws.length
    rw [List.take_length, ← hbs] at this
    omega
  obtain ⟨rfl, A2, c2, rfl, hc2, hC2⟩ : E = 0 ∧ ∃ A2 c2, v = .slice A2 bs.length c2 ∧ bs.length ≤ c2 ∧ (Kd.int .u8).C w2 A2 bs.length bs := by
    rcases hv with ⟨_, h0, hR⟩ | ⟨h, _⟩
    · obtain ⟨A1, c1, h1, h2, h3⟩ := Kd.R_reads hR
      rw [← hws, ← hbs] at h1 h2 h3
      exact ⟨h0, A1, c1, h1, h2, h3⟩
    · rw [HALL.out] at h; cases h
  clear hv
  have HC2 := Lib.hid hC2
  have HWS := Lib.hid hws
  have HBS := Lib.hid hbs
  have HL := Lib.hid hlw
  have HBL := Lib.hid hbl
  have HC1' := Lib.hid hc1
  have HC2' := Lib.hid hc2
  clear hC2 hws hbs hlw hbl hc1 hc2
  go_wp2
  go_loopw [8] (fun i wr => ∃ k : Nat, k ≤ xs.length ∧ i = .int .i64 k ∧ Hid (Kd.R (Kd.int .u8) 5 wr w2.heap.size (fun _ => True) (.slice (some ⟨w2.heap.size, 0, none⟩) 0 0) []) ∧ Hid (Below w2.heap.size w2 wr)) (fun i _ => xs.length - (intOf i).toNat)
  case atStart => exact ⟨0, Nat.zero_le _, rfl, Lib.hid (R_empty w2), Lib.hid (bal (Below.refl _ _) _)⟩
  case round =>
    obtain ⟨k, hk, rfl, HR, HBR⟩ := hrel
    by_cases hlt : k < xs.length
    · obtain ⟨ad, rfl, c0, c1, c2, c3, c4, c5⟩ := at_T24 (HC.out _ (bthen HB2.out HBR.out)) (k : Int) (by omega) (by omega)
      have hy := HI.out (rd_T24 xs (k : Int)) (by rw [rd_at xs k hlt]; exact List.getElem_mem hlt)
      simp only [Int.toNat_natCast] at c0 c1 c2 c3 c4 c5
      have HE := Lib.hid (renc_t (rd_T24 xs (k : Int)) hy (HOKAT.out k hlt))
      clear hy
      generalize rd_T24 xs (k : Int) = y at *
      go_wp2_with fail
      refine (HE.out _).mono ?_
      rintro e w3 ⟨rfl, hb3⟩
      have HR3 := Lib.hid (Kd.R_below HR.out hb3)
      have HB3 := Lib.hid (bthen HBR.out hb3)
      clear hb3
      go_wp2
      go_roundw
      case rel => exact ⟨k + 1, by omega, by go_num, HR3, HB3⟩
      case measure => simp [intOf]; omega
    · obtain rfl : k = xs.length := by omega
      go_wp2
      go_loopw [7, 11] (fun v i wr => ∃ k : Nat, k ≤ xs.length ∧ i = .int .i64 k ∧ Hid (Kd.R (Kd.int .u8) 5 wr w2.heap.size (fun _ => True) v ((ws.take k).flatMap bytesW)) ∧ Hid (Below w2.heap.size w2 wr)) (fun _ i _ => xs.length - (intOf i).toNat)
      case atStart => exact ⟨0, Nat.zero_le _, rfl, HR, HBR⟩
      case round =>
        obtain ⟨k, hk, rfl, HR, HBR⟩ := hrel
        by_cases hlt : k < xs.length
        · obtain ⟨ad, rfl, d0, d1, d2, d3, d4, d5⟩ := at_T24 (HC.out _ (bthen HB2.out HBR.out)) (k : Int) (by omega) (by omega)
          have hy := HI.out (rd_T24 xs (k : Int)) (by rw [rd_at xs k hlt]; exact List.getElem_mem hlt)
          simp only [Int.toNat_natCast] at d0 d1 d2 d3 d4 d5
          have HE := Lib.hid (renc_t (rd_T24 xs (k : Int)) hy (HOKAT.out k hlt))
          have HY := Lib.hid (rbytes_f _ (word_rng _ (HOKAT.out k hlt)))
          have HT := Lib.hid (take_bytes ws k (by rw [HL.out]; exact hlt))
          have HN := Lib.hid (bytes_len ws k)
          have HW1 := Lib.hid (HWAT.out k hlt)
          clear hy
          rw [HWAT.out k hlt] at HT
          generalize hz : rd_T24 xs (k : Int) = y at *
          clear hz
          go_wp2_with fail
          refine (HE.out _).mono ?_
          rintro e w3 ⟨rfl, hb3⟩
          have HR3 := Lib.hid (Kd.R_below HR.out hb3)
          have HB3 := Lib.hid (bthen HBR.out hb3)
          obtain ⟨ad1, rfl, e0⟩ := Kd.at_int (Kd.C_below HC1.out (bthen HB12.out HB3.out)) (k : Int) (by omega) (by omega)
          rw [HW1.out] at e0
          simp only [Int.toNat_natCast] at e0
          clear hb3
          go_wp2_with fail
          refine (mimesisref01_Bytes.calls 44 _ 4 _ _ HY.out).mono ?_
          rintro e w4 ⟨v4, rfl, hR4, hb4⟩
          obtain ⟨A4, c4, rfl, hc4, hC4⟩ := Kd.R_reads hR4
          have HR4 := Lib.hid (Kd.R_below HR3.out hb4)
          have HB4 := Lib.hid (bthen HB3.out hb4)
          have HC4 := Lib.hid hC4
          clear hb4 hR4 hc4 hC4
          go_wp2_with (at_builtin; refine Kd.R_append_row (Value.int .u8) (0 : Int) (w0 := w2) w2.heap.size rfl _ _ 68 5 (.int .u8 0) 1 rfl Tryd.underlying68 infoB rfl (by decide) u7 ((ws.take k).flatMap bytesW) (bytesW (wordI y)) A4 _ c4 (fun _ => True) rfl rfl (fun _ _ => trivial) HR4.out HC4.out HB4.out HB4.out.size (by have := HN.out; have := HL.out; simp only [bytesW, List.length_cons, List.length_nil]; omega) ?_)
          intro v1 w5 ho2 hb2 _ _
          have HR5 := Lib.hid ho2
          have HB5 := Lib.hid hb2
          clear ho2 hb2
          go_wp2
          go_roundw
          case rel => exact ⟨k + 1, by omega, by go_num, Lib.hid (by rw [HT.out]; exact HR5.out), HB5⟩
          case measure => simp [intOf]; omega
        · obtain rfl : k = xs.length := by omega
          have hR := HR.out
          rw [← HL.out, List.take_length, ← HBS.out] at hR
          obtain ⟨A4, c4, rfl, hc4, hC4⟩ := Kd.R_reads hR
          have HC4 := Lib.hid hC4
          have HC4' := Lib.hid hc4
          have HBW := Lib.hid (bthen HB2.out HBR.out)
          have HSB := Lib.hid (fun v (hb : Below w2.heap.size w2 v) (h4 : (Kd.int .u8).C v A4 bs.length bs) => mimesisref01_SameBytes.calls _ A2 c2 bs A4 c4 bs true v (Kd.C_below HC2.out hb) HC2'.out h4 HC4'.out (same_f bs HBL.out))
          clear hR hC4 hc4
          go_wp2_with (first | (go_at_call 39; refine (HSB.out _ HBR.out HC4.out).mono ?_; rintro e w' ⟨rfl, ⟨nd, rfl⟩⟩) | (go_at_call 25; refine (HAW.out _ (bdn HBW.out _)).mono ?_; rintro e w6 ⟨rfl, hb6⟩))
          go_ret
          exact ⟨rfl, bthen (bdn HBW.out _) hb6⟩
theorem elists_w (A : Option Addr) (n c : Nat) (xs : List S24) (hn : xs.length = n) (W : World) (hC : Kd.C k24 W A n xs) (hi : ∀ x ∈ xs, 0 ≤ x.f4 ∧ x.f4 ≤ 4294967295) (hf : FormsIs W) (hm : MatchesIs W) :
    Calls Tryd.prog 8 #[.slice A n c] W fun e w' => e = .returned (.bool true) ∧ Below W.heap.size W w' := by
  subst hn
  by_cases hl : xs.length ≤ 1000
  · rcases Bool.eq_false_or_eq_true (xs.all okI) with h | h
    · exact elists_ok A c xs hl h W hC hi hf hm
    · exact elists_no A c xs hl h W hC hi hf hm
  · exact elists_long A _ c (by omega) W hf hm
end Go.Proofs.YtnooikjkjcflbabDoor
