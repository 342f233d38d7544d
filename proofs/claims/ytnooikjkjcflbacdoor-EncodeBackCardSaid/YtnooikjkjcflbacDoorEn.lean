/- Proved: what a right instruction's word holds, field by field; the decoded word of an encoded instruction is that instruction, and back. Conditions: numbers are of their kinds. -/
import Derived.Test.YtnooikjkjcflbacDoorDl
import Derived.Test.YtnooikjkjcflbacDoorEd
import Derived.Test.YtnooikjkjcflbacDoorEm
namespace Go.Proofs.YtnooikjkjcflbacDoor
open Go.RowKit
set_option linter.unusedVariables false
set_option linter.unusedSimpArgs false

theorem imm_rng (w : Int) (h : 0 ≤ w ∧ w ≤ 4294967295) (f : Int) : 0 ≤ immV w f ∧ immV w f ≤ 4294967295 := by
  have a := immJ_rng w h
  have b := immB_rng w h
  have c := immS_rng w h
  unfold immV sgx
  simp only [Nat.reduceSub, Int.reducePow]
  generalize immJ w = x at *
  generalize immB w = y at *
  generalize immS w = z at *
  repeat' split
  all_goals omega
theorem sg12 (x : Int) (h : 0 ≤ x ∧ x < 4096) : sgnB 12 (sgx 12 x) = true := by
  unfold sgnB sgx wrap32
  simp only [Nat.reduceSub, Int.reducePow, if_true, Bool.and_eq_true, decide_eq_true_eq]
  split <;> omega
theorem sg13 (x : Int) (h : 0 ≤ x ∧ x < 8192) (e : x % 2 = 0) : evB 13 (sgx 13 x) = true := by
  unfold evB sgnB sgx wrap32
  simp only [Nat.reduceSub, Int.reducePow, Int.reduceEq, if_true, if_false, Bool.and_eq_true, decide_eq_true_eq]
  split <;> omega
theorem sg21 (x : Int) (h : 0 ≤ x ∧ x < 2097152) (e : x % 2 = 0) : evB 21 (sgx 21 x) = true := by
  unfold evB sgnB sgx wrap32
  simp only [Nat.reduceSub, Int.reducePow, Int.reduceEq, if_true, if_false, Bool.and_eq_true, decide_eq_true_eq]
  split <;> omega
theorem ins_right (w : Int) (h : 0 ≤ w ∧ w ≤ 4294967295) (op : Int) (ho : 0 ≤ op ∧ op ≤ 57) (f : Int) (hf : formV op = f) (hr : 0 ≤ f ∧ f ≤ 9) : rightB op (oRd f (w / 128 % 32)) (oRs1 f (w / 32768 % 32)) (oRs2 f (w / 1048576 % 32)) (immV w f) (oCsr f (w / 1048576)) = true := by
  have hh : hasB op = true := by simp [hasB]; omega
  have a := immJ_rng w h
  have b := immB_rng w h
  have c := immS_rng w h
  have n : numB f (immV w f) = true := by
    have ea : immJ w % 2 = 0 := by unfold immJ; omega
    have eb : immB w % 2 = 0 := by unfold immB; omega
    rcases (by omega : f = 0 ∨ f = 1 ∨ f = 2 ∨ f = 3 ∨ f = 4 ∨ f = 5 ∨ f = 6 ∨ f = 7 ∨ f = 8 ∨ f = 9) with rfl | rfl | rfl | rfl | rfl | rfl | rfl | rfl | rfl | rfl
    · rfl
    · simp only [numB, immV, if_true, decide_eq_true_eq]; omega
    · simp only [numB, immV, Int.reduceEq, if_true, if_false]; exact sg21 _ a ea
    · simp only [numB, immV, Int.reduceEq, if_true, if_false, true_or]; exact sg12 _ (by omega)
    · simp only [numB, immV, Int.reduceEq, if_true, if_false]; exact sg13 _ b eb
    · simp only [numB, immV, Int.reduceEq, if_true, if_false, or_true]; exact sg12 _ c
    · rfl
    · simp only [numB, immV, Int.reduceEq, if_true, if_false, true_or, false_or, or_self, decide_eq_true_eq]; omega
    · rfl
    · simp only [numB, immV, Int.reduceEq, if_true, if_false, or_true, false_or, or_self, decide_eq_true_eq]; omega
  have o : onlyB f (oRd f (w / 128 % 32)) (oRs1 f (w / 32768 % 32)) (oRs2 f (w / 1048576 % 32)) (immV w f) (oCsr f (w / 1048576)) = true := by
    have e : oImm f (immV w f) = immV w f := by
      unfold oImm
      split
      · rfl
      · rename_i hq
        have : f = 0 ∨ f = 6 ∨ f = 8 := by omega
        rcases this with rfl | rfl | rfl <;> rfl
    unfold onlyB
    rw [e]
    unfold oRd oRs1 oRs2 oCsr
    simp only [Bool.and_eq_true, beq_iff_eq]
    refine ⟨?_, ?_, ?_, trivial, ?_⟩ <;> split <;> rfl
  have r1 : regB (oRd f (w / 128 % 32)) = true := by unfold regB oRd; simp only [Bool.and_eq_true, decide_eq_true_eq]; split <;> omega
  have r2 : regB (oRs1 f (w / 32768 % 32)) = true := by unfold regB oRs1; simp only [Bool.and_eq_true, decide_eq_true_eq]; split <;> omega
  have r3 : regB (oRs2 f (w / 1048576 % 32)) = true := by unfold regB oRs2; simp only [Bool.and_eq_true, decide_eq_true_eq]; split <;> omega
  have r4 : 0 ≤ oCsr f (w / 1048576) ∧ oCsr f (w / 1048576) ≤ 4095 := by unfold oCsr; split <;> omega
  unfold rightB
  rw [hf, hh, o, r1, r2, r3, n]
  simp [r4.1, r4.2]
set_option maxHeartbeats 4000000 in
theorem pat_move (i : Nat) (hi : i < 57) (o g t w g' t' w' : Int) (h : patC o g t w i) (hg : 3 ≤ rformV (i + 1) → g' = g) (ht : rformV (i + 1) = 6 ∨ rformV (i + 1) = 7 → t' = t) (hw : rformV (i + 1) = 0 → w' = w ∧ g' = g) : patC o g' t' w' i := by
  rcases (by omega : i = 0 ∨ i = 1 ∨ i = 2 ∨ i = 3 ∨ i = 4 ∨ i = 5 ∨ i = 6 ∨ i = 7 ∨ i = 8 ∨ i = 9 ∨ i = 10 ∨ i = 11 ∨ i = 12 ∨ i = 13 ∨ i = 14 ∨ i = 15 ∨ i = 16 ∨ i = 17 ∨ i = 18 ∨ i = 19 ∨ i = 20 ∨ i = 21 ∨ i = 22 ∨ i = 23 ∨ i = 24 ∨ i = 25 ∨ i = 26 ∨ i = 27 ∨ i = 28 ∨ i = 29 ∨ i = 30 ∨ i = 31 ∨ i = 32 ∨ i = 33 ∨ i = 34 ∨ i = 35 ∨ i = 36 ∨ i = 37 ∨ i = 38 ∨ i = 39 ∨ i = 40 ∨ i = 41 ∨ i = 42 ∨ i = 43 ∨ i = 44 ∨ i = 45 ∨ i = 46 ∨ i = 47 ∨ i = 48 ∨ i = 49 ∨ i = 50 ∨ i = 51 ∨ i = 52 ∨ i = 53 ∨ i = 54 ∨ i = 55 ∨ i = 56) with rfl | rfl | rfl | rfl | rfl | rfl | rfl | rfl | rfl | rfl | rfl | rfl | rfl | rfl | rfl | rfl | rfl | rfl | rfl | rfl | rfl | rfl | rfl | rfl | rfl | rfl | rfl | rfl | rfl | rfl | rfl | rfl | rfl | rfl | rfl | rfl | rfl | rfl | rfl | rfl | rfl | rfl | rfl | rfl | rfl | rfl | rfl | rfl | rfl | rfl | rfl | rfl | rfl | rfl | rfl | rfl | rfl
  all_goals
    simp only [patC] at h ⊢
    try have a := hg (by decide)
    try have b := ht (by decide)
    try have c := hw (by decide)
    clear hg ht hw
    omega
theorem mat_match : ∀ i, i < 57 → matchB (matchesAt (i + 1)) i = true ∧ 0 ≤ matchesAt (i + 1) ∧ matchesAt (i + 1) ≤ 4294967295 := by decide +kernel
theorem mr (x n : Int) (hn : 0 < n) : 0 ≤ x % n ∧ x % n < n := ⟨Int.emod_nonneg _ (by omega), Int.emod_lt_of_pos _ hn⟩
/-- What the word of a right instruction holds. -/
theorem enc_holds (f M rd rs1 rs2 imm csr : Int) (hf : 0 ≤ f ∧ f ≤ 9) (hM : MatOk f M) (hi : 0 ≤ imm ∧ imm ≤ 4294967295) (h1 : 0 ≤ rd ∧ rd ≤ 31) (h2 : 0 ≤ rs1 ∧ rs1 ≤ 31) (h3 : 0 ≤ rs2 ∧ rs2 ≤ 31) (h4 : 0 ≤ csr ∧ csr ≤ 4095)
    (k1 : oRd f rd = rd) (k2 : oRs1 f rs1 = rs1) (k3 : oRs2 f rs2 = rs2) (k4 : oImm f imm = imm) (k5 : oCsr f csr = csr) (k6 : numB f imm = true) (x : Int) (hx : encS f M rd rs1 rs2 imm csr = x) :
    (0 ≤ x ∧ x ≤ 4294967295) ∧ x % 128 = M % 128 ∧ (3 ≤ f → x / 4096 % 8 = M / 4096 % 8) ∧ (f = 6 ∨ f = 7 → x / 33554432 = M / 33554432) ∧ (f = 0 → x = M) ∧
    oRd f (x / 128 % 32) = rd ∧ oRs1 f (x / 32768 % 32) = rs1 ∧ oRs2 f (x / 1048576 % 32) = rs2 ∧ immV x f = imm ∧ oCsr f (x / 1048576) = csr := by
  obtain ⟨m0, m1, m2, m3, m4⟩ := hM
  rcases (by omega : f = 0 ∨ f = 1 ∨ f = 2 ∨ f = 3 ∨ f = 4 ∨ f = 5 ∨ f = 6 ∨ f = 7 ∨ f = 8 ∨ f = 9) with rfl | rfl | rfl | rfl | rfl | rfl | rfl | rfl | rfl | rfl
  all_goals
    simp [oRd, oRs1, oRs2, oImm, oCsr, numB, encS] at k1 k2 k3 k4 k5 k6 hx
    try subst k1
    try subst k2
    try subst k3
    try subst k4
    try subst k5
    simp [oRd, oRs1, oRs2, oCsr, immV]
  · subst hx
    exact ⟨⟨m0, m1⟩, rfl, rfl⟩
  · have hM := m4 (Or.inl rfl)
    clear m2 m3 m4
    have ei : imm / 4096 % 1048576 = imm / 4096 := by omega
    rw [ei] at hx
    obtain ⟨a, b, c, d⟩ := dgU M rd (imm / 4096) ⟨m0, hM⟩ h1 (by omega)
    rw [hx] at a b c d
    exact ⟨a, by rw [b]; omega, c, by rw [d]; omega⟩
  · have hM := m4 (Or.inr rfl)
    clear m2 m3 m4
    obtain ⟨a, b, c, d1, d2, d3, d4⟩ := dgJ M rd _ _ _ _ ⟨m0, hM⟩ h1 (mr (imm / 1048576) 2 (by decide)) (mr (imm / 4096) 256 (by decide)) (mr (imm / 2048) 2 (by decide)) (mr (imm / 2) 1024 (by decide)) x hx.symm
    refine ⟨a, by rw [b]; omega, c, ?_⟩
    unfold immJ
    rw [d1, d2, d3, d4]
    exact sgJ imm hi k6
  · obtain ⟨q1, q2, q3⟩ := m2 (by decide)
    have q4 := m3 (by decide)
    clear m2 m3 m4
    have hc : M = M % 128 + M / 4096 % 8 * 4096 := by omega
    obtain ⟨a, b, c, d1, d2, d3⟩ := dgI (M % 128) (M / 4096 % 8) rd rs1 (imm % 4096) (mr M 128 (by decide)) (mr (M / 4096) 8 (by decide)) h1 h2 (mr imm 4096 (by decide)) x (by rw [← hx]; omega)
    exact ⟨a, b, c, d1, d2, by rw [d3]; exact sgI imm hi k6⟩
  · obtain ⟨q1, q2, q3⟩ := m2 (by decide)
    have q4 := m3 (by decide)
    clear m2 m3 m4
    have hc : M = M % 128 + M / 4096 % 8 * 4096 := by omega
    rw [hc] at hx
    obtain ⟨a, b, c, d1, d2, e1, e2, e3, e4⟩ := dgB (M % 128) (M / 4096 % 8) rs1 rs2 _ _ _ _ (mr M 128 (by decide)) (mr (M / 4096) 8 (by decide)) h2 h3 (mr (imm / 4096) 2 (by decide)) (mr (imm / 2048) 2 (by decide)) (mr (imm / 32) 64 (by decide)) (mr (imm / 2) 16 (by decide)) x hx.symm
    refine ⟨a, b, c, d1, d2, ?_⟩
    unfold immB
    rw [e1, e2, e3, e4]
    exact sgB imm hi k6
  · obtain ⟨q1, q2, q3⟩ := m2 (by decide)
    have q4 := m3 (by decide)
    clear m2 m3 m4
    have hc : M = M % 128 + M / 4096 % 8 * 4096 := by omega
    rw [hc] at hx
    have j1 := mr (imm / 32) 128 (by decide)
    have j2 := mr imm 32 (by decide)
    obtain ⟨a, b, c, e1, d0, d1, d2⟩ := dgR (M % 128) (M / 4096 % 8) (imm / 32 % 128) (imm % 32) rs1 rs2 (mr M 128 (by decide)) (mr (M / 4096) 8 (by decide)) j1 (by omega) h2 h3 x (by rw [← hx]; generalize imm / 32 % 128 = p; generalize imm % 32 = q; omega)
    refine ⟨a, b, c, d1, d2, ?_⟩
    unfold immS
    rw [e1, d0]
    exact sgS imm hi k6
  · obtain ⟨q1, q2, q3⟩ := m2 (by decide)
    clear m2 m3 m4
    have hc := mcut 6 M ⟨m0, m1⟩ q1 q2 q3
    rw [hc] at hx
    obtain ⟨a, b, c, e1, d0, d1, d2⟩ := dgR (M % 128) (M / 4096 % 8) (M / 33554432) rd rs1 rs2 (mr M 128 (by decide)) (mr (M / 4096) 8 (by decide)) (by omega) h1 h2 h3 x hx.symm
    exact ⟨a, b, c, e1, d0, d1, d2⟩
  · obtain ⟨q1, q2, q3⟩ := m2 (by decide)
    clear m2 m3 m4
    have hc := mcut 7 M ⟨m0, m1⟩ q1 q2 q3
    rw [hc] at hx
    have ei : imm % 32 = imm := by omega
    rw [ei] at hx
    obtain ⟨a, b, c, e1, d0, d1, d2⟩ := dgR (M % 128) (M / 4096 % 8) (M / 33554432) rd rs1 imm (mr M 128 (by decide)) (mr (M / 4096) 8 (by decide)) (by omega) h1 h2 (by omega) x hx.symm
    exact ⟨a, b, c, e1, d0, d1, d2⟩
  · obtain ⟨q1, q2, q3⟩ := m2 (by decide)
    have q4 := m3 (by decide)
    clear m2 m3 m4
    have hc : M = M % 128 + M / 4096 % 8 * 4096 := by omega
    rw [hc] at hx
    obtain ⟨a, b, c, d1, d2, d3⟩ := dgI (M % 128) (M / 4096 % 8) rd rs1 csr (mr M 128 (by decide)) (mr (M / 4096) 8 (by decide)) h1 h2 (by omega) x hx.symm
    exact ⟨a, b, c, d1, d2, d3⟩
  · obtain ⟨q1, q2, q3⟩ := m2 (by decide)
    have q4 := m3 (by decide)
    clear m2 m3 m4
    have hc : M = M % 128 + M / 4096 % 8 * 4096 := by omega
    rw [hc] at hx
    have ei : imm % 32 = imm := by omega
    rw [ei] at hx
    obtain ⟨a, b, c, d1, d2, d3⟩ := dgI (M % 128) (M / 4096 % 8) rd imm csr (mr M 128 (by decide)) (mr (M / 4096) 8 (by decide)) h1 (by omega) (by omega) x (by rw [← hx]; generalize M % 128 = p; generalize M / 4096 % 8 = q; omega)
    exact ⟨a, b, c, d1, d2, d3⟩
theorem enc_rng_dec (op rd rs1 rs2 imm csr : Int) (hi : 0 ≤ imm ∧ imm ≤ 4294967295) (ho : ¬ op = 0) (hr : rightB op rd rs1 rs2 imm csr = true) :
    (0 ≤ encV op rd rs1 rs2 imm csr ∧ encV op rd rs1 rs2 imm csr ≤ 4294967295) ∧ decI (encV op rd rs1 rs2 imm csr) = ⟨op, rd, rs1, rs2, imm, csr⟩ := by
  obtain ⟨h0, h1, h2, h3, h4, k1, k2, k3, k4, k5, k6⟩ := right_facts hr
  have hop := has_t h0
  obtain ⟨i, hi57, rfl⟩ := nat_of op ⟨hop.1, by omega⟩ ho
  have hM := mat_ok ((i : Int) + 1) ⟨by omega, by omega⟩
  have hmv : matV ((i : Int) + 1) = matchesAt (i + 1) := by
    unfold matV
    rw [if_pos ⟨by omega, by omega⟩]
    rfl
  have hs := dform_same ((i : Int) + 1) ⟨by omega, by omega⟩
  obtain ⟨p0, p1, p2⟩ := mat_match i hi57
  have hp := (match_c _ ⟨p1, p2⟩ i hi57).mp p0
  rw [← hmv] at hp
  unfold encV
  generalize hx : encS (formV ((i : Int) + 1)) (matV ((i : Int) + 1)) rd rs1 rs2 imm csr = x
  obtain ⟨r, a, b, c, d, e1, e2, e3, e4, e5⟩ := enc_holds _ _ rd rs1 rs2 imm csr (eform_rng _) hM hi h1 h2 h3 h4 k1 k2 k3 k4 k5 k6 x hx
  rw [hs] at b c d
  have hq := pat_move i hi57 _ _ _ _ (x / 4096 % 8) (x / 33554432) x hp b c (fun h => ⟨d h, by rw [d h]⟩)
  rw [← a] at hq
  have hk : kindV x = (i : Int) + 1 := (match_iff x r i hi57).mp ((match_c x r i hi57).mpr hq)
  refine ⟨r, ?_⟩
  unfold decI
  rw [hk, e1, e2, e3, e4, e5]
theorem dec_right (w : Int) (h : 0 ≤ w ∧ w ≤ 4294967295) : rightB (decI w).x0 (decI w).x1 (decI w).x2 (decI w).x3 (decI w).x4 (decI w).x5 = true := ins_right w h _ (kind_rng w) _ rfl (form_rng _)
theorem dec_imm (w : Int) (h : 0 ≤ w ∧ w ≤ 4294967295) : 0 ≤ (decI w).x4 ∧ (decI w).x4 ≤ 4294967295 := imm_rng w h _
theorem dec_enc (w : Int) (h : 0 ≤ w ∧ w ≤ 4294967295) (hn : ¬ (decI w).x0 = 0) : encV (decI w).x0 (decI w).x1 (decI w).x2 (decI w).x3 (decI w).x4 (decI w).x5 = w := by
  obtain ⟨r, e⟩ := enc_rng_dec (decI w).x0 (decI w).x1 (decI w).x2 (decI w).x3 (decI w).x4 (decI w).x5 (dec_imm w h) hn (dec_right w h)
  generalize hj : decI w = j at *
  have e' : decI (encV j.x0 j.x1 j.x2 j.x3 j.x4 j.x5) = decI w := by rw [hj, e]
  exact decI_inj _ w r h (by rw [e']) (by rw [e']) (by rw [e']) (by rw [e']) (by rw [e']) (by rw [e']) (by rw [e', hj]; exact hn)
end Go.Proofs.YtnooikjkjcflbacDoor
