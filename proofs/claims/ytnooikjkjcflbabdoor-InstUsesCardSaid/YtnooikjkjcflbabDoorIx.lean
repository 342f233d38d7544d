/- The walk of the law InstUses: it returns true. Conditions: words are words; the listed variables hold what the program's text lays in them. -/
import Derived.Test.YtnooikjkjcflbabDoorIw
namespace Go.Proofs.YtnooikjkjcflbabDoor
open Go.RowKit
set_option linter.unusedVariables false
set_option linter.unusedSimpArgs false

theorem rights_rs {op rd rs1 rs2 imm csr : Int} (h : rightB op rd rs1 rs2 imm csr = true) : (0 ≤ rs1 ∧ rs1 ≤ 31) ∧ (0 ≤ rs2 ∧ rs2 ≤ 31) := by
  unfold rightB regB at h
  simp only [Bool.and_eq_true, decide_eq_true_eq] at h
  obtain ⟨⟨⟨⟨⟨⟨⟨h0, h1⟩, h2⟩, h3⟩, h4⟩, h5⟩, h6⟩, h7⟩ := h
  exact ⟨h3, h4⟩
set_option maxHeartbeats 4000000 in
set_option maxRecDepth 100000 in
theorem iuses_no (op rd rs1 rs2 imm csr : Int) (hi : 0 ≤ imm ∧ imm ≤ 4294967295) (hb : rightB op rd rs1 rs2 imm csr = false) (w : World) (hn : NamesIs w) (hf : FormsIs w) :
    Calls Tryd.prog 3 #[.agg #[.int .i64 op, .int .i64 rd, .int .i64 rs1, .int .i64 rs2, .int .u32 imm, .int .i64 csr]] w fun e w' => e = .returned (.bool true) ∧ Below w.heap.size w w' := by
  have hbw := bal (Below.refl w.heap.size w) (.cells #[.int .i64 op, .int .i64 rd, .int .i64 rs1, .int .i64 rs2, .int .u32 imm, .int .i64 csr] 24)
  have h1 := fun (v : World) (hv : FormsIs v) => reads_c op rd rs1 rs2 imm csr hi v hv
  have h2 := fun (v : World) (hv : FormsIs v) => writes_t op rd rs1 rs2 imm csr hi v hv
  have h3 := fun (v : World) => rright_c op rd rs1 rs2 imm csr hi v
  rw [hb, show readsL false op rs1 rs2 = [] by simp [readsL]] at h1
  rw [hb, show wrV false op rd = 0 by simp [wrV]] at h2
  rw [← right_same _ _ _ _ _ _ hi, hb] at h3
  have H1 := Lib.hid h1
  have H2 := Lib.hid h2
  have H3 := Lib.hid h3
  have HBW := Lib.hid hbw
  have HN := Lib.hid hn
  have HF := Lib.hid hf
  clear h1 h2 h3 hbw hn hf hi hb
  go_enter Tryd.func3, Tryd.ntmps3
  go_wp2_with fail
  refine (H1.out _ (HF.out.below HBW.out)).mono ?_
  rintro e w1 ⟨⟨v, rfl, hv⟩, hb1⟩
  have hc1 := (bcf hb1).1
  have HB1 := Lib.hid (bthen HBW.out hb1)
  have z1 : w.heap.size < w1.heap.size := by have := hb1.size; simp at this; omega
  clear hb1
  rcases hv with ⟨_, rfl⟩ | ⟨g, cap, _, rfl, _⟩
  all_goals
    go_wp2_with fail
    refine (H2.out _ (HF.out.below HB1.out)).mono ?_
    rintro e w2 ⟨rfl, hb2⟩
    have hc2 := (bcf hb2).1
    have HB2 := Lib.hid (bthen HB1.out hb2)
    have z2 : w.heap.size < w2.heap.size := by have := hb2.size; omega
    clear hb2
    go_wp2_with fail
    refine (H3.out _).mono ?_
    rintro e w3 ⟨rfl, hb3⟩
    have HB3 := Lib.hid (bthen HB2.out hb3)
    clear hb3
    go_wp2_with (go_at_call 14; refine (awake2_c _ (HN.out.below HB3.out) (HF.out.below HB3.out)).mono ?_; rintro e w4 ⟨rfl, hb4⟩)
    go_ret
    exact ⟨rfl, bthen HB3.out hb4⟩
set_option maxHeartbeats 8000000 in
set_option maxRecDepth 100000 in
theorem iuses_yes (op rd rs1 rs2 imm csr : Int) (hi : 0 ≤ imm ∧ imm ≤ 4294967295) (hb : rightB op rd rs1 rs2 imm csr = true) (w : World) (hn : NamesIs w) (hf : FormsIs w) :
    Calls Tryd.prog 3 #[.agg #[.int .i64 op, .int .i64 rd, .int .i64 rs1, .int .i64 rs2, .int .u32 imm, .int .i64 csr]] w fun e w' => e = .returned (.bool true) ∧ Below w.heap.size w w' := by
  have hbw := bal (Below.refl w.heap.size w) (.cells #[.int .i64 op, .int .i64 rd, .int .i64 rs1, .int .i64 rs2, .int .u32 imm, .int .i64 csr] 24)
  have h1 := fun (v : World) (hv : FormsIs v) => reads_c op rd rs1 rs2 imm csr hi v hv
  have h2 := fun (v : World) (hv : FormsIs v) => writes_t op rd rs1 rs2 imm csr hi v hv
  have h3 := fun (v : World) => rright_c op rd rs1 rs2 imm csr hi v
  have h4 := fun (k : Int) (v : World) => rreads_t op rd rs1 rs2 imm csr k v
  obtain ⟨r1, r2⟩ := rights_rs hb
  have hfew := few_reads op rs1 rs2 r1 r2
  have hmem := fun (k : Int) (hk : 1 ≤ k) => reads_mem op rs1 rs2 k hk r1 r2
  rw [hb] at h1 h2
  rw [← right_same _ _ _ _ _ _ hi, hb] at h3
  have H1 := Lib.hid h1
  have H2 := Lib.hid h2
  have H3 := Lib.hid h3
  have H4 := Lib.hid h4
  have HBW := Lib.hid hbw
  have HN := Lib.hid hn
  have HF := Lib.hid hf
  clear h1 h2 h3 h4 hbw hn hf hi hb r1 r2
  generalize readsL true op rs1 rs2 = L at *
  have HFEW := Lib.hid hfew
  have HMEM := Lib.hid hmem
  have hlen : L.length ≤ 2 := by
    rcases hfew with rfl | ⟨a, rfl, _, _⟩ | ⟨a, b, rfl, _, _, _⟩ <;> simp
  clear hfew hmem
  go_enter Tryd.func3, Tryd.ntmps3
  go_wp2_with fail
  refine (H1.out _ (HF.out.below HBW.out)).mono ?_
  rintro e w1 ⟨⟨v, rfl, hv⟩, hb1⟩
  have hc1 := (bcf hb1).1
  have HB1 := Lib.hid (bthen HBW.out hb1)
  have z1 : w.heap.size < w1.heap.size := by have := hb1.size; simp at this; omega
  clear hb1
  obtain ⟨p, cap, rfl, hcl⟩ : ∃ p cap, v = .slice p L.length cap ∧ ∀ (j : Nat) (u : Int), L[j]? = some u → ∃ g, p = some ⟨g, 0, none⟩ ∧ w1.cell? ⟨g, j, none⟩ = some (.int .i64 u) := by
    rcases hv with ⟨hl, rfl⟩ | ⟨g, cap, _, rfl, hc⟩
    · subst hl
      exact ⟨none, 0, rfl, fun j u h => by simp at h⟩
    · exact ⟨_, cap, rfl, fun j u h => ⟨g, rfl, hc j u h⟩⟩
  have HCL := Lib.hid hcl
  clear hcl hv
  go_wp2_with fail
  refine (H2.out _ (HF.out.below HB1.out)).mono ?_
  rintro e w2 ⟨rfl, hb2⟩
  have hc2 := (bcf hb2).1
  have HB2 := Lib.hid (bthen HB1.out hb2)
  have HB12 := Lib.hid hb2
  have z2 : w.heap.size < w2.heap.size := by have := hb2.size; omega
  clear hb2
  go_wp2_with fail
  refine (H3.out _).mono ?_
  rintro e w3 ⟨rfl, hb3⟩
  have hc3 := (bcf hb3).1
  have HB3 := Lib.hid (bthen HB2.out hb3)
  have HB13 := Lib.hid (bthen HB12.out hb3)
  have z3 : w.heap.size < w3.heap.size := by have := hb3.size; omega
  have q0 : w3.cell? ⟨w.heap.size, 0, none⟩ = some (.int .i64 op) := by rw [hc3 _ _ z2, hc2 _ _ z1, hc1 _ _ (by simp)]; simp [go_sem]
  have q1 : w3.cell? ⟨w.heap.size, 1, none⟩ = some (.int .i64 rd) := by rw [hc3 _ _ z2, hc2 _ _ z1, hc1 _ _ (by simp)]; simp [go_sem]
  have q2 : w3.cell? ⟨w.heap.size, 2, none⟩ = some (.int .i64 rs1) := by rw [hc3 _ _ z2, hc2 _ _ z1, hc1 _ _ (by simp)]; simp [go_sem]
  have q3 : w3.cell? ⟨w.heap.size, 3, none⟩ = some (.int .i64 rs2) := by rw [hc3 _ _ z2, hc2 _ _ z1, hc1 _ _ (by simp)]; simp [go_sem]
  have q4 : w3.cell? ⟨w.heap.size, 4, none⟩ = some (.int .u32 imm) := by rw [hc3 _ _ z2, hc2 _ _ z1, hc1 _ _ (by simp)]; simp [go_sem]
  have q5 : w3.cell? ⟨w.heap.size, 5, none⟩ = some (.int .i64 csr) := by rw [hc3 _ _ z2, hc2 _ _ z1, hc1 _ _ (by simp)]; simp [go_sem]
  have Q := Lib.hid (And.intro q0 (And.intro q1 (And.intro q2 (And.intro q3 (And.intro q4 q5)))))
  clear hb3 hc1 hc2 hc3 q0 q1 q2 q3 q4 q5 z1 z2
  have n1 := (few_ends HFEW.out).1
  have N1 := Lib.hid n1
  clear n1
  go_wp2
  go_loopw [5, 6] (fun n i wr => ∃ k : Nat, 1 ≤ k ∧ k ≤ 32 ∧ i = .int .i64 k ∧ n = .int .i64 (nV L k : Nat) ∧ Below w3.heap.size w3 wr) (fun _ i _ => 32 - (intOf i).toNat)
  case atStart => exact ⟨1, by omega, by omega, rfl, by rw [show ((1 : Nat) : Int) = 1 from rfl, N1.out]; rfl, Below.refl _ _⟩
  case round =>
    obtain ⟨k, hk1, hk, rfl, rfl, hbr⟩ := hrel
    have HBR := Lib.hid hbr
    have hcr := (bcf hbr).1
    have q0 := (hcr _ 0 z3).trans Q.out.1
    have q1 := (hcr _ 1 z3).trans Q.out.2.1
    have q2 := (hcr _ 2 z3).trans Q.out.2.2.1
    have q3 := (hcr _ 3 z3).trans Q.out.2.2.2.1
    have q4 := (hcr _ 4 z3).trans Q.out.2.2.2.2.1
    have q5 := (hcr _ 5 z3).trans Q.out.2.2.2.2.2
    have zr : w.heap.size < wr.heap.size := by have := hbr.size; omega
    clear hbr hcr
    by_cases hlt : k < 32
    · have hm := HMEM.out (k : Int) (by omega)
      have hr4 := Lib.hid (H4.out (k : Int))
      rcases Bool.eq_false_or_eq_true (rdB op rs1 rs2 (k : Int)) with hd | hd
      · obtain ⟨f1, f2, f3⟩ := few_in HFEW.out (k : Int) (hm.mp hd)
        obtain ⟨g, rfl, hg⟩ := HCL.out _ _ f2
        have hg1 : g < w1.heap.size := World.block_lt_of_cell? w1 ⟨g, nV L k, none⟩ hg
        have hgr : wr.cell? ⟨g, nV L (k : Int), none⟩ = some (.int .i64 k) := ((HBR.out.cell (p := ⟨g, nV L (k : Int), none⟩) (by have := HB13.out.size; simp; omega)).trans (HB13.out.cell (p := ⟨g, nV L (k : Int), none⟩) hg1)).trans hg
        have F3 := Lib.hid f3
        rw [hd] at hr4
        clear hm hd f2 f3 hg hg1
        generalize nV L (k : Int) = n at *
        have i1 : (0 : Int) ≤ (n : Int) := by omega
        have i2 : (n : Int) < (L.length : Int) := by omega
        have i3 : decide (L.length ≤ n) = false := by simp; omega
        generalize L.length = m at *
        go_wp2_with fail
        refine (hr4.out _).mono ?_
        rintro e w5 ⟨rfl, hb5⟩
        have HB5 := Lib.hid (bthen HBR.out hb5)
        have hg5 := (hb5.cell (p := ⟨g, n, none⟩) (World.block_lt_of_cell? wr ⟨g, n, none⟩ hgr)).trans hgr
        clear hb5 hgr q0 q1 q2 q3 q4 q5
        go_wp2
        go_roundw
        case rel => exact ⟨k + 1, by omega, by omega, by go_num, by rw [show ((k + 1 : Nat) : Int) = (k : Int) + 1 by omega, F3.out]; go_num, HB5.out⟩
        case measure => simp [intOf]; omega
      · have f3 := few_out HFEW.out (k : Int) (fun h => by rw [hm.mpr h] at hd; cases hd)
        have F3 := Lib.hid f3
        rw [hd] at hr4
        clear hm hd f3
        generalize nV L (k : Int) = n at *
        go_wp2_with fail
        refine (hr4.out _).mono ?_
        rintro e w5 ⟨rfl, hb5⟩
        have HB5 := Lib.hid (bthen HBR.out hb5)
        clear hb5 q0 q1 q2 q3 q4 q5
        go_wp2
        go_roundw
        case rel => exact ⟨k + 1, by omega, by omega, by go_num, by rw [show ((k + 1 : Nat) : Int) = (k : Int) + 1 by omega, F3.out], HB5.out⟩
        case measure => simp [intOf]; omega
    · have hk8 : k = 32 := by omega
      subst hk8
      have e32 := (few_ends HFEW.out).2
      rw [show ((32 : Nat) : Int) = 32 from rfl, e32]
      have hbe := bthen HB3.out HBR.out
      have HBE := Lib.hid hbe
      clear hbe e32
      generalize L.length = m at *
      have hw : wrV true op rd = if plainB op = true then rd else 0 := by simp [wrV]
      rw [hw]
      clear hw
      unfold plainB
      rcases (by omega : op = 38 ∨ op = 39 ∨ (¬ op = 38 ∧ ¬ op = 39)) with rfl | rfl | ⟨o1, o2⟩
      all_goals
        try (have k1 := nb o1
             have k2 := nb o2)
        try simp only [k1, k2, Bool.not_false, Bool.and_self, if_true]
        go_wp2_with (go_at_call 14; refine (awake2_c _ (HN.out.below HBE.out) (HF.out.below HBE.out)).mono ?_; rintro e w4 ⟨rfl, hb4⟩)
        go_ret
        exact ⟨rfl, bthen HBE.out hb4⟩
theorem iuses_w (op rd rs1 rs2 imm csr : Int) (hi : 0 ≤ imm ∧ imm ≤ 4294967295) (w : World) (hn : NamesIs w) (hf : FormsIs w) :
    Calls Tryd.prog 3 #[.agg #[.int .i64 op, .int .i64 rd, .int .i64 rs1, .int .i64 rs2, .int .u32 imm, .int .i64 csr]] w fun e w' => e = .returned (.bool true) ∧ Below w.heap.size w w' := by
  cases hb : rightB op rd rs1 rs2 imm csr
  · exact iuses_no op rd rs1 rs2 imm csr hi hb w hn hf
  · exact iuses_yes op rd rs1 rs2 imm csr hi hb w hn hf
end Go.Proofs.YtnooikjkjcflbabDoor
