/- Contracts of inst.Reads and Writes, and of the reference's Reads. Conditions: words are words; the listed variables hold what the program's text lays in them. -/
import Derived.Test.YtnooikjkjcflbabDoorIb
import Derived.OwnWalk
import Derived.Handy
namespace Go.Proofs.YtnooikjkjcflbabDoor
open Go.RowKit
set_option linter.unusedVariables false
set_option linter.unusedSimpArgs false

def plainB (op : Int) : Bool := !(op == 38) && !(op == 39)
theorem plain_c (op : Int) (w : World) : Calls Tryd.prog 45 #[.int .i64 op] w fun e w' => e = .returned (.bool (plainB op)) ∧ w = w' := by
  rcases (by omega : op = 38 ∨ op = 39 ∨ (¬ op = 38 ∧ ¬ op = 39)) with rfl | rfl | ⟨h1, h2⟩
  all_goals
    try (have k1 := nb h1
         have k2 := nb h2)
    go_enter Tryd.func45, Tryd.ntmps45
    go_wp2
    go_ret
    exact ⟨ret_b (by simp [plainB, *]), rfl⟩
def pairL (a b : Int) : List Int := if a ≤ 0 then (if 0 < b then [b] else []) else if a = b then [a] else [a, b]
def readsL (b : Bool) (op rs1 rs2 : Int) : List Int := if b = true ∧ plainB op = true then pairL (min rs1 rs2) (max rs1 rs2) else []
def ReadsIs (base : Nat) (w : World) (l : List Int) (v : Value) : Prop :=
  (l = [] ∧ v = .slice none 0 0) ∨ (∃ g cap, base ≤ g ∧ v = .slice (some ⟨g, 0, none⟩) l.length cap ∧ ∀ j u, l[j]? = some u → w.cell? ⟨g, j, none⟩ = some (.int .i64 u))
theorem Tryd.infoI : (Tryd.prog.info? 3).map (fun i => (i.zero, i.size, i.bytes)) = some (some (.int .i64 0), 1, 8) := by kernel_rfl
theorem idx2_0 (x y : Int) (w : World) : (Instr.index 76 (.agg #[.int .i64 x, .int .i64 y]) (.int .i64 0)).run Tryd.prog w = .ok (.int .i64 x) w := by kernel_rfl
theorem idx2_1 (x y : Int) (w : World) : (Instr.index 76 (.agg #[.int .i64 x, .int .i64 y]) (.int .i64 1)).run Tryd.prog w = .ok (.int .i64 y) w := by kernel_rfl
theorem one_cell (w : World) (x : Value) (t : TypeId) : ∀ (j : Nat) (u : Value), [x][j]? = some u → (w.alloc (.cells #[x] t)).cell? ((⟨w.heap.size, 0, none⟩ : Addr).add j) = some u := by
  intro j u hj
  match j, hj with
  | 0, hj => simp at hj; subst hj; simp [Addr.add, go_sem]
theorem one_one (x : Int) : ∀ u ∈ [Value.int .i64 x], u.oneCell' = true := by intro u hu; simp at hu; subst hu; rfl
theorem owns_one {w : World} {B : Nat} {v : Value} {n : Nat} {l : List Value} (h : w.ownsRow B 3 1 v (n + 1) l) : ∃ g cap, v = .slice (some ⟨g, 0, none⟩) (n + 1) cap ∧ B ≤ g ∧ ∀ j, j < n + 1 → w.cell? ⟨g, j, none⟩ = l[j]? := by
  obtain ⟨h1, ⟨_, h0⟩ | ⟨g, cap, cur, rfl, hg, hh⟩⟩ := h
  · cases h0
  · have ho : w.ownsRow B 3 1 (.slice (some ⟨g, 0, none⟩) (n + 1) cap) (n + 1) l := ⟨h1, .inr ⟨g, cap, cur, rfl, hg, hh⟩⟩
    exact ⟨g, cap, rfl, hg, fun j hj => ho.cellAt j (by omega)⟩
theorem cells_of {w : World} {g n : Nat} {l : List Int} {L : List Value} (hl : L = l.map (Value.int .i64)) (hn : l.length = n) (h : ∀ j, j < n → w.cell? ⟨g, j, none⟩ = L[j]?) : ∀ j u, l[j]? = some u → w.cell? ⟨g, j, none⟩ = some (.int .i64 u) := by
  intro j u hj
  have hlt : j < l.length := (List.getElem?_eq_some_iff.1 hj).1
  rw [h j (by omega), hl, List.getElem?_map, hj]; rfl
set_option maxHeartbeats 4000000 in
set_option maxRecDepth 100000 in
theorem reads_1 (op rd rs1 rs2 imm csr : Int) (hyp : rs1 ≤ rs2 ∧ rs1 ≤ 0 ∧ rs2 ≤ 0) (w : World) (HBW : Hid (Below w.heap.size w (w.alloc (.cells #[.int .i64 op, .int .i64 rd, .int .i64 rs1, .int .i64 rs2, .int .u32 imm, .int .i64 csr] 24)))) (hp : plainB op = true) (HR : Hid (Calls Tryd.prog 44 #[.agg #[.int .i64 op, .int .i64 rd, .int .i64 rs1, .int .i64 rs2, .int .u32 imm, .int .i64 csr]] (w.alloc (.cells #[.int .i64 op, .int .i64 rd, .int .i64 rs1, .int .i64 rs2, .int .u32 imm, .int .i64 csr] 24)) fun e w' => e = .returned (.bool true) ∧ Below (w.alloc (.cells #[.int .i64 op, .int .i64 rd, .int .i64 rs1, .int .i64 rs2, .int .u32 imm, .int .i64 csr] 24)).heap.size (w.alloc (.cells #[.int .i64 op, .int .i64 rd, .int .i64 rs1, .int .i64 rs2, .int .u32 imm, .int .i64 csr] 24)) w')) :
    Calls Tryd.prog 11 #[.agg #[.int .i64 op, .int .i64 rd, .int .i64 rs1, .int .i64 rs2, .int .u32 imm, .int .i64 csr]] w fun e w' => (∃ v, e = .returned v ∧ ReadsIs w.heap.size w' [] v) ∧ Below w.heap.size w w' := by
          obtain ⟨i0, hi0, hz0, hz1, hz2⟩ := info_parts Tryd.infoI
          obtain ⟨ho, h1, h2⟩ := hyp
          rcases (by omega : rs1 = rs2 ∨ rs1 < rs2) with he | he
          all_goals
            try subst he
            go_enter Tryd.func11, Tryd.ntmps11
            go_wp2_with fail
            refine HR.out.mono ?_
            rintro e w' ⟨rfl, hb⟩
            obtain ⟨hc, hf⟩ := bcf hb
            have HB := Lib.hid (bthen HBW.out hb)
            have hlt : w.heap.size < w'.heap.size := by have := hb.size; simp at this; omega
            clear hb
            go_wp2_with (first | (go_at_call 45; refine (plain_c op _).mono ?_; rintro e w' ⟨rfl, rfl⟩; rw [hp]))
            have x0 := idx2_0
            have x1 := idx2_1
            refine wp_loop_rounds 3 ?_
            rw [rounds_succ]
            go_wp2
            rw [rounds_succ]
            go_wp2
            rw [rounds_succ]
            go_wp2
            go_ret
            exact ⟨⟨_, rfl, .inl ⟨rfl, rfl⟩⟩, HB.out⟩
set_option maxHeartbeats 4000000 in
set_option maxRecDepth 100000 in
theorem reads_2 (op rd rs1 rs2 imm csr : Int) (hyp : rs1 ≤ rs2 ∧ rs1 ≤ 0 ∧ 0 < rs2) (w : World) (HBW : Hid (Below w.heap.size w (w.alloc (.cells #[.int .i64 op, .int .i64 rd, .int .i64 rs1, .int .i64 rs2, .int .u32 imm, .int .i64 csr] 24)))) (hp : plainB op = true) (HR : Hid (Calls Tryd.prog 44 #[.agg #[.int .i64 op, .int .i64 rd, .int .i64 rs1, .int .i64 rs2, .int .u32 imm, .int .i64 csr]] (w.alloc (.cells #[.int .i64 op, .int .i64 rd, .int .i64 rs1, .int .i64 rs2, .int .u32 imm, .int .i64 csr] 24)) fun e w' => e = .returned (.bool true) ∧ Below (w.alloc (.cells #[.int .i64 op, .int .i64 rd, .int .i64 rs1, .int .i64 rs2, .int .u32 imm, .int .i64 csr] 24)).heap.size (w.alloc (.cells #[.int .i64 op, .int .i64 rd, .int .i64 rs1, .int .i64 rs2, .int .u32 imm, .int .i64 csr] 24)) w')) :
    Calls Tryd.prog 11 #[.agg #[.int .i64 op, .int .i64 rd, .int .i64 rs1, .int .i64 rs2, .int .u32 imm, .int .i64 csr]] w fun e w' => (∃ v, e = .returned v ∧ ReadsIs w.heap.size w' [rs2] v) ∧ Below w.heap.size w w' := by
          obtain ⟨i0, hi0, hz0, hz1, hz2⟩ := info_parts Tryd.infoI
          obtain ⟨ho, h1, h2⟩ := hyp
          go_enter Tryd.func11, Tryd.ntmps11
          go_wp2_with fail
          refine HR.out.mono ?_
          rintro e w' ⟨rfl, hb⟩
          obtain ⟨hc, hf⟩ := bcf hb
          have HB := Lib.hid (bthen HBW.out hb)
          have hlt : w.heap.size < w'.heap.size := by have := hb.size; simp at this; omega
          clear hb
          go_wp2_with (first | (go_at_call 45; refine (plain_c op _).mono ?_; rintro e w' ⟨rfl, rfl⟩; rw [hp]))
          have x0 := idx2_0
          have x1 := idx2_1
          refine wp_loop_rounds 3 ?_
          rw [rounds_succ]
          go_wp2
          rw [rounds_succ]
          go_wp2_with (at_builtin; refine wpList_append_own _ rfl _ _ 25 rfl w.heap.size 3 i0 (.int .i64 0) 1 8 Tryd.underlying25 hi0 hz0 hz1 hz2 rfl (by decide) _ _ _ rfl (World.ownsRow_nil _ _ _ _) ⟨w'.heap.size, 0, none⟩ 1 1 [.int .i64 rs2] rfl rfl (one_cell _ _ _) (one_one _) (by decide) (by decide) (by simp; omega) ?_; intro v1 w1 hown1 hgrow1 _; obtain ⟨g1, cap1, rfl, hg1, hc1⟩ := owns_one hown1; have HO1 := Lib.hid hown1; have HB1 := Lib.hid ((bal HB.out _).grown hgrow1 (by simp; omega) (fun q hq => by cases hq)); clear hown1 hgrow1)
          have c1 := hc1 0 (by decide)
          simp only [Nat.zero_add, List.nil_append, List.getElem?_cons_zero] at c1
          rw [rounds_succ]
          go_wp2
          go_ret
          exact ⟨⟨_, rfl, .inr ⟨g1, cap1, hg1, rfl, cells_of rfl rfl hc1⟩⟩, HB1.out⟩
set_option maxHeartbeats 4000000 in
set_option maxRecDepth 100000 in
theorem reads_3 (op rd rs1 rs2 imm csr : Int) (hyp : rs1 ≤ rs2 ∧ 0 < rs1 ∧ rs1 = rs2) (w : World) (HBW : Hid (Below w.heap.size w (w.alloc (.cells #[.int .i64 op, .int .i64 rd, .int .i64 rs1, .int .i64 rs2, .int .u32 imm, .int .i64 csr] 24)))) (hp : plainB op = true) (HR : Hid (Calls Tryd.prog 44 #[.agg #[.int .i64 op, .int .i64 rd, .int .i64 rs1, .int .i64 rs2, .int .u32 imm, .int .i64 csr]] (w.alloc (.cells #[.int .i64 op, .int .i64 rd, .int .i64 rs1, .int .i64 rs2, .int .u32 imm, .int .i64 csr] 24)) fun e w' => e = .returned (.bool true) ∧ Below (w.alloc (.cells #[.int .i64 op, .int .i64 rd, .int .i64 rs1, .int .i64 rs2, .int .u32 imm, .int .i64 csr] 24)).heap.size (w.alloc (.cells #[.int .i64 op, .int .i64 rd, .int .i64 rs1, .int .i64 rs2, .int .u32 imm, .int .i64 csr] 24)) w')) :
    Calls Tryd.prog 11 #[.agg #[.int .i64 op, .int .i64 rd, .int .i64 rs1, .int .i64 rs2, .int .u32 imm, .int .i64 csr]] w fun e w' => (∃ v, e = .returned v ∧ ReadsIs w.heap.size w' [rs1] v) ∧ Below w.heap.size w w' := by
          obtain ⟨i0, hi0, hz0, hz1, hz2⟩ := info_parts Tryd.infoI
          obtain ⟨ho, h1, h2⟩ := hyp
          subst h2
          go_enter Tryd.func11, Tryd.ntmps11
          go_wp2_with fail
          refine HR.out.mono ?_
          rintro e w' ⟨rfl, hb⟩
          obtain ⟨hc, hf⟩ := bcf hb
          have HB := Lib.hid (bthen HBW.out hb)
          have hlt : w.heap.size < w'.heap.size := by have := hb.size; simp at this; omega
          clear hb
          go_wp2_with (first | (go_at_call 45; refine (plain_c op _).mono ?_; rintro e w' ⟨rfl, rfl⟩; rw [hp]))
          have x0 := idx2_0
          have x1 := idx2_1
          refine wp_loop_rounds 3 ?_
          rw [rounds_succ]
          go_wp2_with (at_builtin; refine wpList_append_own _ rfl _ _ 25 rfl w.heap.size 3 i0 (.int .i64 0) 1 8 Tryd.underlying25 hi0 hz0 hz1 hz2 rfl (by decide) _ _ _ rfl (World.ownsRow_nil _ _ _ _) ⟨w'.heap.size, 0, none⟩ 1 1 [.int .i64 rs1] rfl rfl (one_cell _ _ _) (one_one _) (by decide) (by decide) (by simp; omega) ?_; intro v1 w1 hown1 hgrow1 _; obtain ⟨g1, cap1, rfl, hg1, hc1⟩ := owns_one hown1; have HO1 := Lib.hid hown1; have HB1 := Lib.hid ((bal HB.out _).grown hgrow1 (by simp; omega) (fun q hq => by cases hq)); clear hown1 hgrow1)
          have c1 := hc1 0 (by decide)
          simp only [Nat.zero_add, List.nil_append, List.getElem?_cons_zero] at c1
          rw [rounds_succ]
          go_wp2
          rw [rounds_succ]
          go_wp2
          go_ret
          exact ⟨⟨_, rfl, .inr ⟨g1, cap1, hg1, rfl, cells_of rfl rfl hc1⟩⟩, HB1.out⟩
set_option maxHeartbeats 4000000 in
set_option maxRecDepth 100000 in
theorem reads_4 (op rd rs1 rs2 imm csr : Int) (hyp : rs1 ≤ rs2 ∧ 0 < rs1 ∧ ¬ rs1 = rs2) (w : World) (HBW : Hid (Below w.heap.size w (w.alloc (.cells #[.int .i64 op, .int .i64 rd, .int .i64 rs1, .int .i64 rs2, .int .u32 imm, .int .i64 csr] 24)))) (hp : plainB op = true) (HR : Hid (Calls Tryd.prog 44 #[.agg #[.int .i64 op, .int .i64 rd, .int .i64 rs1, .int .i64 rs2, .int .u32 imm, .int .i64 csr]] (w.alloc (.cells #[.int .i64 op, .int .i64 rd, .int .i64 rs1, .int .i64 rs2, .int .u32 imm, .int .i64 csr] 24)) fun e w' => e = .returned (.bool true) ∧ Below (w.alloc (.cells #[.int .i64 op, .int .i64 rd, .int .i64 rs1, .int .i64 rs2, .int .u32 imm, .int .i64 csr] 24)).heap.size (w.alloc (.cells #[.int .i64 op, .int .i64 rd, .int .i64 rs1, .int .i64 rs2, .int .u32 imm, .int .i64 csr] 24)) w')) :
    Calls Tryd.prog 11 #[.agg #[.int .i64 op, .int .i64 rd, .int .i64 rs1, .int .i64 rs2, .int .u32 imm, .int .i64 csr]] w fun e w' => (∃ v, e = .returned v ∧ ReadsIs w.heap.size w' [rs1, rs2] v) ∧ Below w.heap.size w w' := by
          obtain ⟨i0, hi0, hz0, hz1, hz2⟩ := info_parts Tryd.infoI
          obtain ⟨ho, h1, h2⟩ := hyp
          go_enter Tryd.func11, Tryd.ntmps11
          go_wp2_with fail
          refine HR.out.mono ?_
          rintro e w' ⟨rfl, hb⟩
          obtain ⟨hc, hf⟩ := bcf hb
          have HB := Lib.hid (bthen HBW.out hb)
          have hlt : w.heap.size < w'.heap.size := by have := hb.size; simp at this; omega
          clear hb
          go_wp2_with (first | (go_at_call 45; refine (plain_c op _).mono ?_; rintro e w' ⟨rfl, rfl⟩; rw [hp]))
          have x0 := idx2_0
          have x1 := idx2_1
          refine wp_loop_rounds 3 ?_
          rw [rounds_succ]
          have hq : (rs1 == rs2) = false := nb h2
          go_wp2_with (at_builtin; refine wpList_append_own _ rfl _ _ 25 rfl w.heap.size 3 i0 (.int .i64 0) 1 8 Tryd.underlying25 hi0 hz0 hz1 hz2 rfl (by decide) _ _ _ rfl (World.ownsRow_nil _ _ _ _) ⟨w'.heap.size, 0, none⟩ 1 1 [.int .i64 rs1] rfl rfl (one_cell _ _ _) (one_one _) (by decide) (by decide) (by simp; omega) ?_; intro v1 w1 hown1 hgrow1 _; obtain ⟨g1, cap1, rfl, hg1, hc1⟩ := owns_one hown1; have HO1 := Lib.hid hown1; have HB1 := Lib.hid ((bal HB.out _).grown hgrow1 (by simp; omega) (fun q hq => by cases hq)); clear hown1 hgrow1)
          have c1 := hc1 0 (by decide)
          simp only [Nat.zero_add, List.nil_append, List.getElem?_cons_zero] at c1
          rw [rounds_succ]
          go_wp2_with (at_builtin; refine wpList_append_own _ rfl _ _ 25 rfl w.heap.size 3 i0 (.int .i64 0) 1 8 Tryd.underlying25 hi0 hz0 hz1 hz2 rfl (by decide) _ _ _ rfl (HO1.out.alloc _) ⟨w1.heap.size, 0, none⟩ 1 1 [.int .i64 rs2] rfl rfl (one_cell _ _ _) (one_one _) (by decide) (by decide) (by have := HB1.out.size; simp; omega) ?_; intro v2 w2 hown2 hgrow2 _; obtain ⟨g2, cap2, rfl, hg2, hc2⟩ := owns_one hown2; have HB2 := Lib.hid ((bal HB1.out _).grown hgrow2 (by have := HB1.out.size; simp; omega) (fun q hq => (HO1.out.lt q hq).1)); clear hown2 hgrow2)
          rw [rounds_succ]
          go_wp2
          go_ret
          exact ⟨⟨_, rfl, .inr ⟨g2, cap2, hg2, rfl, cells_of rfl rfl hc2⟩⟩, HB2.out⟩
set_option maxHeartbeats 4000000 in
set_option maxRecDepth 100000 in
theorem reads_5 (op rd rs1 rs2 imm csr : Int) (hyp : rs2 < rs1 ∧ rs2 ≤ 0 ∧ rs1 ≤ 0) (w : World) (HBW : Hid (Below w.heap.size w (w.alloc (.cells #[.int .i64 op, .int .i64 rd, .int .i64 rs1, .int .i64 rs2, .int .u32 imm, .int .i64 csr] 24)))) (hp : plainB op = true) (HR : Hid (Calls Tryd.prog 44 #[.agg #[.int .i64 op, .int .i64 rd, .int .i64 rs1, .int .i64 rs2, .int .u32 imm, .int .i64 csr]] (w.alloc (.cells #[.int .i64 op, .int .i64 rd, .int .i64 rs1, .int .i64 rs2, .int .u32 imm, .int .i64 csr] 24)) fun e w' => e = .returned (.bool true) ∧ Below (w.alloc (.cells #[.int .i64 op, .int .i64 rd, .int .i64 rs1, .int .i64 rs2, .int .u32 imm, .int .i64 csr] 24)).heap.size (w.alloc (.cells #[.int .i64 op, .int .i64 rd, .int .i64 rs1, .int .i64 rs2, .int .u32 imm, .int .i64 csr] 24)) w')) :
    Calls Tryd.prog 11 #[.agg #[.int .i64 op, .int .i64 rd, .int .i64 rs1, .int .i64 rs2, .int .u32 imm, .int .i64 csr]] w fun e w' => (∃ v, e = .returned v ∧ ReadsIs w.heap.size w' [] v) ∧ Below w.heap.size w w' := by
          obtain ⟨i0, hi0, hz0, hz1, hz2⟩ := info_parts Tryd.infoI
          obtain ⟨ho, h1, h2⟩ := hyp
          go_enter Tryd.func11, Tryd.ntmps11
          go_wp2_with fail
          refine HR.out.mono ?_
          rintro e w' ⟨rfl, hb⟩
          obtain ⟨hc, hf⟩ := bcf hb
          have HB := Lib.hid (bthen HBW.out hb)
          have hlt : w.heap.size < w'.heap.size := by have := hb.size; simp at this; omega
          clear hb
          go_wp2_with (first | (go_at_call 45; refine (plain_c op _).mono ?_; rintro e w' ⟨rfl, rfl⟩; rw [hp]))
          have x0 := idx2_0
          have x1 := idx2_1
          refine wp_loop_rounds 3 ?_
          rw [rounds_succ]
          go_wp2
          rw [rounds_succ]
          go_wp2
          rw [rounds_succ]
          go_wp2
          go_ret
          exact ⟨⟨_, rfl, .inl ⟨rfl, rfl⟩⟩, HB.out⟩
set_option maxHeartbeats 4000000 in
set_option maxRecDepth 100000 in
theorem reads_6 (op rd rs1 rs2 imm csr : Int) (hyp : rs2 < rs1 ∧ rs2 ≤ 0 ∧ 0 < rs1) (w : World) (HBW : Hid (Below w.heap.size w (w.alloc (.cells #[.int .i64 op, .int .i64 rd, .int .i64 rs1, .int .i64 rs2, .int .u32 imm, .int .i64 csr] 24)))) (hp : plainB op = true) (HR : Hid (Calls Tryd.prog 44 #[.agg #[.int .i64 op, .int .i64 rd, .int .i64 rs1, .int .i64 rs2, .int .u32 imm, .int .i64 csr]] (w.alloc (.cells #[.int .i64 op, .int .i64 rd, .int .i64 rs1, .int .i64 rs2, .int .u32 imm, .int .i64 csr] 24)) fun e w' => e = .returned (.bool true) ∧ Below (w.alloc (.cells #[.int .i64 op, .int .i64 rd, .int .i64 rs1, .int .i64 rs2, .int .u32 imm, .int .i64 csr] 24)).heap.size (w.alloc (.cells #[.int .i64 op, .int .i64 rd, .int .i64 rs1, .int .i64 rs2, .int .u32 imm, .int .i64 csr] 24)) w')) :
    Calls Tryd.prog 11 #[.agg #[.int .i64 op, .int .i64 rd, .int .i64 rs1, .int .i64 rs2, .int .u32 imm, .int .i64 csr]] w fun e w' => (∃ v, e = .returned v ∧ ReadsIs w.heap.size w' [rs1] v) ∧ Below w.heap.size w w' := by
          obtain ⟨i0, hi0, hz0, hz1, hz2⟩ := info_parts Tryd.infoI
          obtain ⟨ho, h1, h2⟩ := hyp
          go_enter Tryd.func11, Tryd.ntmps11
          go_wp2_with fail
          refine HR.out.mono ?_
          rintro e w' ⟨rfl, hb⟩
          obtain ⟨hc, hf⟩ := bcf hb
          have HB := Lib.hid (bthen HBW.out hb)
          have hlt : w.heap.size < w'.heap.size := by have := hb.size; simp at this; omega
          clear hb
          go_wp2_with (first | (go_at_call 45; refine (plain_c op _).mono ?_; rintro e w' ⟨rfl, rfl⟩; rw [hp]))
          have x0 := idx2_0
          have x1 := idx2_1
          refine wp_loop_rounds 3 ?_
          rw [rounds_succ]
          go_wp2
          rw [rounds_succ]
          go_wp2_with (at_builtin; refine wpList_append_own _ rfl _ _ 25 rfl w.heap.size 3 i0 (.int .i64 0) 1 8 Tryd.underlying25 hi0 hz0 hz1 hz2 rfl (by decide) _ _ _ rfl (World.ownsRow_nil _ _ _ _) ⟨w'.heap.size, 0, none⟩ 1 1 [.int .i64 rs1] rfl rfl (one_cell _ _ _) (one_one _) (by decide) (by decide) (by simp; omega) ?_; intro v1 w1 hown1 hgrow1 _; obtain ⟨g1, cap1, rfl, hg1, hc1⟩ := owns_one hown1; have HO1 := Lib.hid hown1; have HB1 := Lib.hid ((bal HB.out _).grown hgrow1 (by simp; omega) (fun q hq => by cases hq)); clear hown1 hgrow1)
          have c1 := hc1 0 (by decide)
          simp only [Nat.zero_add, List.nil_append, List.getElem?_cons_zero] at c1
          rw [rounds_succ]
          go_wp2
          go_ret
          exact ⟨⟨_, rfl, .inr ⟨g1, cap1, hg1, rfl, cells_of rfl rfl hc1⟩⟩, HB1.out⟩
set_option maxHeartbeats 4000000 in
set_option maxRecDepth 100000 in
theorem reads_7 (op rd rs1 rs2 imm csr : Int) (hyp : rs2 < rs1 ∧ 0 < rs2 ∧ ¬ rs2 = rs1) (w : World) (HBW : Hid (Below w.heap.size w (w.alloc (.cells #[.int .i64 op, .int .i64 rd, .int .i64 rs1, .int .i64 rs2, .int .u32 imm, .int .i64 csr] 24)))) (hp : plainB op = true) (HR : Hid (Calls Tryd.prog 44 #[.agg #[.int .i64 op, .int .i64 rd, .int .i64 rs1, .int .i64 rs2, .int .u32 imm, .int .i64 csr]] (w.alloc (.cells #[.int .i64 op, .int .i64 rd, .int .i64 rs1, .int .i64 rs2, .int .u32 imm, .int .i64 csr] 24)) fun e w' => e = .returned (.bool true) ∧ Below (w.alloc (.cells #[.int .i64 op, .int .i64 rd, .int .i64 rs1, .int .i64 rs2, .int .u32 imm, .int .i64 csr] 24)).heap.size (w.alloc (.cells #[.int .i64 op, .int .i64 rd, .int .i64 rs1, .int .i64 rs2, .int .u32 imm, .int .i64 csr] 24)) w')) :
    Calls Tryd.prog 11 #[.agg #[.int .i64 op, .int .i64 rd, .int .i64 rs1, .int .i64 rs2, .int .u32 imm, .int .i64 csr]] w fun e w' => (∃ v, e = .returned v ∧ ReadsIs w.heap.size w' [rs2, rs1] v) ∧ Below w.heap.size w w' := by
          obtain ⟨i0, hi0, hz0, hz1, hz2⟩ := info_parts Tryd.infoI
          obtain ⟨ho, h1, h2⟩ := hyp
          go_enter Tryd.func11, Tryd.ntmps11
          go_wp2_with fail
          refine HR.out.mono ?_
          rintro e w' ⟨rfl, hb⟩
          obtain ⟨hc, hf⟩ := bcf hb
          have HB := Lib.hid (bthen HBW.out hb)
          have hlt : w.heap.size < w'.heap.size := by have := hb.size; simp at this; omega
          clear hb
          go_wp2_with (first | (go_at_call 45; refine (plain_c op _).mono ?_; rintro e w' ⟨rfl, rfl⟩; rw [hp]))
          have x0 := idx2_0
          have x1 := idx2_1
          refine wp_loop_rounds 3 ?_
          rw [rounds_succ]
          have hq : (rs2 == rs1) = false := nb h2
          go_wp2_with (at_builtin; refine wpList_append_own _ rfl _ _ 25 rfl w.heap.size 3 i0 (.int .i64 0) 1 8 Tryd.underlying25 hi0 hz0 hz1 hz2 rfl (by decide) _ _ _ rfl (World.ownsRow_nil _ _ _ _) ⟨w'.heap.size, 0, none⟩ 1 1 [.int .i64 rs2] rfl rfl (one_cell _ _ _) (one_one _) (by decide) (by decide) (by simp; omega) ?_; intro v1 w1 hown1 hgrow1 _; obtain ⟨g1, cap1, rfl, hg1, hc1⟩ := owns_one hown1; have HO1 := Lib.hid hown1; have HB1 := Lib.hid ((bal HB.out _).grown hgrow1 (by simp; omega) (fun q hq => by cases hq)); clear hown1 hgrow1)
          have c1 := hc1 0 (by decide)
          simp only [Nat.zero_add, List.nil_append, List.getElem?_cons_zero] at c1
          rw [rounds_succ]
          go_wp2_with (at_builtin; refine wpList_append_own _ rfl _ _ 25 rfl w.heap.size 3 i0 (.int .i64 0) 1 8 Tryd.underlying25 hi0 hz0 hz1 hz2 rfl (by decide) _ _ _ rfl (HO1.out.alloc _) ⟨w1.heap.size, 0, none⟩ 1 1 [.int .i64 rs1] rfl rfl (one_cell _ _ _) (one_one _) (by decide) (by decide) (by have := HB1.out.size; simp; omega) ?_; intro v2 w2 hown2 hgrow2 _; obtain ⟨g2, cap2, rfl, hg2, hc2⟩ := owns_one hown2; have HB2 := Lib.hid ((bal HB1.out _).grown hgrow2 (by have := HB1.out.size; simp; omega) (fun q hq => (HO1.out.lt q hq).1)); clear hown2 hgrow2)
          rw [rounds_succ]
          go_wp2
          go_ret
          exact ⟨⟨_, rfl, .inr ⟨g2, cap2, hg2, rfl, cells_of rfl rfl hc2⟩⟩, HB2.out⟩
set_option maxHeartbeats 8000000 in
set_option maxRecDepth 100000 in
theorem reads_c (op rd rs1 rs2 imm csr : Int) (hi : 0 ≤ imm ∧ imm ≤ 4294967295) (w : World) (hf : FormsIs w) : Calls Tryd.prog 11 #[.agg #[.int .i64 op, .int .i64 rd, .int .i64 rs1, .int .i64 rs2, .int .u32 imm, .int .i64 csr]] w fun e w' =>
    (∃ v, e = .returned v ∧ ReadsIs w.heap.size w' (readsL (rightB op rd rs1 rs2 imm csr) op rs1 rs2) v) ∧ Below w.heap.size w w' := by
  have hr := right_c op rd rs1 rs2 imm csr hi (w.alloc (.cells #[.int .i64 op, .int .i64 rd, .int .i64 rs1, .int .i64 rs2, .int .u32 imm, .int .i64 csr] 24)) (hf.below (bal (Below.refl _ _) _))
  clear hf
  generalize rightB op rd rs1 rs2 imm csr = b at *
  obtain ⟨i0, hi0, hz0, hz1, hz2⟩ := info_parts Tryd.infoI
  have HR := Lib.hid hr
  clear hr
  have hbw := bal (Below.refl w.heap.size w) (.cells #[.int .i64 op, .int .i64 rd, .int .i64 rs1, .int .i64 rs2, .int .u32 imm, .int .i64 csr] 24)
  have HBW := Lib.hid hbw
  clear hbw
  cases b
  · have hl : readsL false op rs1 rs2 = [] := by simp [readsL]
    rw [hl]
    go_enter Tryd.func11, Tryd.ntmps11
    go_wp2_with (first | (go_at_call 44; refine HR.out.mono ?_; rintro e w' ⟨rfl, hb⟩))
    go_ret
    exact ⟨⟨_, rfl, .inl ⟨rfl, rfl⟩⟩, bthen HBW.out hb⟩
  · rcases Bool.eq_false_or_eq_true (plainB op) with hp | hp
    rotate_left
    · have hl : readsL true op rs1 rs2 = [] := by simp [readsL, hp]
      rw [hl]
      go_enter Tryd.func11, Tryd.ntmps11
      go_wp2_with fail
      refine HR.out.mono ?_
      rintro e w' ⟨rfl, hb⟩
      obtain ⟨hc, hf⟩ := bcf hb
      have HB := Lib.hid (bthen HBW.out hb)
      have hlt : w.heap.size < w'.heap.size := by have := hb.size; simp at this; omega
      clear hb
      go_wp2_with (first | (go_at_call 45; refine (plain_c op _).mono ?_; rintro e w' ⟨rfl, rfl⟩; rw [hp]))
      go_ret
      exact ⟨⟨_, rfl, .inl ⟨rfl, rfl⟩⟩, HB.out⟩
    · have hl : readsL true op rs1 rs2 = pairL (min rs1 rs2) (max rs1 rs2) := by simp [readsL, hp]
      rw [hl]
      rcases (by omega : rs1 ≤ rs2 ∨ rs2 < rs1) with ho | ho
      · rcases (by omega : (rs1 ≤ 0 ∧ rs2 ≤ 0) ∨ (rs1 ≤ 0 ∧ 0 < rs2) ∨ (0 < rs1 ∧ rs1 = rs2) ∨ (0 < rs1 ∧ ¬ rs1 = rs2)) with ⟨h1, h2⟩ | ⟨h1, h2⟩ | ⟨h1, h2⟩ | ⟨h1, h2⟩
        · have hv : pairL (min rs1 rs2) (max rs1 rs2) = [] := by rw [Int.min_eq_left ho, Int.max_eq_right ho]; unfold pairL; rw [if_pos h1, if_neg (by omega)]
          rw [hv]
          exact reads_1 op rd rs1 rs2 imm csr ⟨ho, h1, h2⟩ w HBW hp HR
        · have hv : pairL (min rs1 rs2) (max rs1 rs2) = [rs2] := by rw [Int.min_eq_left ho, Int.max_eq_right ho]; unfold pairL; rw [if_pos h1, if_pos h2]
          rw [hv]
          exact reads_2 op rd rs1 rs2 imm csr ⟨ho, h1, h2⟩ w HBW hp HR
        · have hv : pairL (min rs1 rs2) (max rs1 rs2) = [rs1] := by rw [Int.min_eq_left ho, Int.max_eq_right ho]; unfold pairL; rw [if_neg (by omega), if_pos h2]
          rw [hv]
          exact reads_3 op rd rs1 rs2 imm csr ⟨ho, h1, h2⟩ w HBW hp HR
        · have hv : pairL (min rs1 rs2) (max rs1 rs2) = [rs1, rs2] := by rw [Int.min_eq_left ho, Int.max_eq_right ho]; unfold pairL; rw [if_neg (by omega), if_neg h2]
          rw [hv]
          exact reads_4 op rd rs1 rs2 imm csr ⟨ho, h1, h2⟩ w HBW hp HR
      · rcases (by omega : (rs2 ≤ 0 ∧ rs1 ≤ 0) ∨ (rs2 ≤ 0 ∧ 0 < rs1) ∨ (0 < rs2 ∧ ¬ rs2 = rs1)) with ⟨h1, h2⟩ | ⟨h1, h2⟩ | ⟨h1, h2⟩
        · have hv : pairL (min rs1 rs2) (max rs1 rs2) = [] := by rw [Int.min_eq_right (Int.le_of_lt ho), Int.max_eq_left (Int.le_of_lt ho)]; unfold pairL; rw [if_pos h1, if_neg (by omega)]
          rw [hv]
          exact reads_5 op rd rs1 rs2 imm csr ⟨ho, h1, h2⟩ w HBW hp HR
        · have hv : pairL (min rs1 rs2) (max rs1 rs2) = [rs1] := by rw [Int.min_eq_right (Int.le_of_lt ho), Int.max_eq_left (Int.le_of_lt ho)]; unfold pairL; rw [if_pos h1, if_pos h2]
          rw [hv]
          exact reads_6 op rd rs1 rs2 imm csr ⟨ho, h1, h2⟩ w HBW hp HR
        · have hv : pairL (min rs1 rs2) (max rs1 rs2) = [rs2, rs1] := by rw [Int.min_eq_right (Int.le_of_lt ho), Int.max_eq_left (Int.le_of_lt ho)]; unfold pairL; rw [if_neg (by omega), if_neg h2]
          rw [hv]
          exact reads_7 op rd rs1 rs2 imm csr ⟨ho, h1, h2⟩ w HBW hp HR
end Go.Proofs.YtnooikjkjcflbabDoor
