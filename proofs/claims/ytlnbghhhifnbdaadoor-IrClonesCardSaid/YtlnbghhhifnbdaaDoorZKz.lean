/- The walk of the law IrClones: it returns true. Conditions: the lists read as the given ones; the listed variable holds what the program's text lays in it. -/
import Derived.Test.YtlnbghhhifnbdaaDoorZJz
import Derived.Deep.RegionLaw
import Derived.Deep.DeepCutAuto
import Derived.Test.YtlnbghhhifnbdaaDoorZWEqStruct
import Derived.Test.YtlnbghhhifnbdaaDoorZWApart
import Derived.Lib.BufferMore
import Derived.Deep.Slices
import Derived.Test.YtlnbghhhifnbdaaDoorZWShare
/- Contract of the law's Back: it answers the document's block that the program's reads as. Conditions: the block reads as the given one, its lists have at most a million entries. -/
namespace Go.Proofs.YtlnbghhhifnbdaaDoor
open Go.RowKit Go.Proofs.YtlnbghhhifnbdaaDoorW.PrintWords Go.Proofs.YtlnbghhhifnbdaaDoor.PIrTexts
set_option linter.unusedVariables false
set_option linter.unusedSimpArgs false

def opBk (o : S41) : S38 := ⟨o.f0, o.f1, o.f2, o.f3, o.f4, o.f5⟩
def valBk (v : S56) : S62 := ⟨v.f0, v.f1⟩
def exitBk (e : S54) : S59 := ⟨e.f0, e.f1, e.f2, e.f3, e.f4.map valBk⟩
theorem infoOpR : (Tryd.prog.info? 38).map (fun i => (i.zero, i.size, i.bytes)) = some (some (.agg #[.int .i64 0, .int .i64 0, .int .i64 0, .int .u32 0, .int .i64 0, .int .i64 0]), 6, 48) := by kernel_rfl
theorem infoValR : (Tryd.prog.info? 62).map (fun i => (i.zero, i.size, i.bytes)) = some (some (.agg #[.int .i64 0, .int .i64 0]), 2, 16) := by kernel_rfl
theorem infoExitR : (Tryd.prog.info? 59).map (fun i => (i.zero, i.size, i.bytes)) = some (some (.agg #[.int .i64 0, .int .u32 0, .int .i64 0, .int .i64 0, .slice none 0 0]), 5, 56) := by kernel_rfl
/-- The state of Back: the result's cells, and those of the new block. -/
structure BkSt (w wr : World) (a0 : Value) (last : Int) (v1 v2 : Value) : Prop where
  b0 : wr.heap[w.heap.size]? = some (.cells #[.slice none 0 0, .slice none 0 0, .slice none 0 0, .int .i64 0] 26 (0, 0))
  b1 : wr.heap[w.heap.size + 1]? = some (.cells #[a0, v1, v2, .int .i64 last] 26 (0, 0))
  bel : Below w.heap.size w wr
section
variable {w wr w1 : World} {a0 v1 v2 u : Value} {last : Int}
theorem BkSt.d1 (h : BkSt w wr a0 last v1 v2) : wr.cell? ⟨w.heap.size + 1, 1, none⟩ = some v1 := by rw [blk_cell h.b1]; rfl
theorem BkSt.d2 (h : BkSt w wr a0 last v1 v2) : wr.cell? ⟨w.heap.size + 1, 2, none⟩ = some v2 := by rw [blk_cell h.b1]; rfl
theorem BkSt.d0 (h : BkSt w wr a0 last v1 v2) : wr.cell? ⟨w.heap.size + 1, 0, none⟩ = some a0 := by rw [blk_cell h.b1]; rfl
theorem BkSt.d3 (h : BkSt w wr a0 last v1 v2) : wr.cell? ⟨w.heap.size + 1, 3, none⟩ = some (.int .i64 last) := by rw [blk_cell h.b1]; rfl
theorem BkSt.f1 (h : BkSt w wr a0 last v1 v2) (i : Nat) : wr.frozen? ⟨w.heap.size + 1, i, none⟩ = false := blk_frozen h.b1 i
theorem BkSt.f0 (h : BkSt w wr a0 last v1 v2) (i : Nat) : wr.frozen? ⟨w.heap.size, i, none⟩ = false := blk_frozen h.b0 i
theorem BkSt.lt (h : BkSt w wr a0 last v1 v2) : w.heap.size + 1 < wr.heap.size := blk_lt h.b1
theorem BkSt.below (h : BkSt w wr a0 last v1 v2) (hb : Below wr.heap.size wr w1) : BkSt w w1 a0 last v1 v2 := ⟨blk_below h.b0 hb, blk_below h.b1 hb, bthen h.bel hb⟩
theorem BkSt.grown {row : Option Nat} (h : BkSt w wr a0 last v1 v2) (hg : wr.grownBy w1 row) (hr : ∀ k, row = some k → w.heap.size + 1 < k) : BkSt w w1 a0 last v1 v2 :=
  ⟨blk_grown h.b0 hg (fun e => by have := hr _ e.symm; omega), blk_grown h.b1 hg (fun e => by have := hr _ e.symm; omega), pw_below_grown h.bel row h.bel.size hg (fun k hk => by have := hr k hk; omega)⟩
theorem BkSt.set1 (h : BkSt w wr a0 last v1 v2) (u : Value) : BkSt w (wr.setCell ⟨w.heap.size + 1, 1, none⟩ u) a0 last u v2 :=
  ⟨blk_far h.b0 (by simp) u, blk_set h.b1 1 u, bset h.bel (by simp) u⟩
theorem BkSt.set2 (h : BkSt w wr a0 last v1 v2) (u : Value) : BkSt w (wr.setCell ⟨w.heap.size + 1, 2, none⟩ u) a0 last v1 u :=
  ⟨blk_far h.b0 (by simp) u, blk_set h.b1 2 u, bset h.bel (by simp) u⟩
end
theorem BkSt.row {w wr : World} {a0 v1 v2 u : Value} {last : Int} {α : Type} {d : Kd α} {e : Nat} {ok : Nat → Prop} {xs : List α} (h : BkSt w wr a0 last v1 v2) (hr : d.R e wr w.heap.size ok u xs) (h1 : e ≠ 26) : ∀ k, u.ownBlock = some k → w.heap.size + 1 < k := by
  intro k hk
  have a := Kd.R_base hr k hk
  have b : some w.heap.size ≠ u.ownBlock := Kd.R_ne hr h.b0 h1
  have c : some (w.heap.size + 1) ≠ u.ownBlock := Kd.R_ne hr h.b1 h1
  rw [hk] at b c
  have b' : w.heap.size ≠ k := fun e => b (by rw [e])
  have c' : w.heap.size + 1 ≠ k := fun e => c (by rw [e])
  omega
/-- The state of Back's inner loop: the given exit in its cells, and the new one. -/
structure BkMp (w wr : World) (q : S54) (v4 vm : Value) : Prop where
  b0 : wr.heap[w.heap.size]? = some (.cells #[.int .i64 q.f0, .int .u32 q.f1, .int .i64 q.f2, .int .i64 q.f3, v4] 54 (0, 0))
  b1 : wr.heap[w.heap.size + 1]? = some (.cells #[.int .i64 q.f0, .int .u32 q.f1, .int .i64 q.f2, .int .i64 q.f3, vm] 59 (0, 0))
  bel : Below w.heap.size w wr
section
variable {w wr w1 : World} {q : S54} {v4 vm u : Value}
theorem BkMp.c4 (h : BkMp w wr q v4 vm) : wr.cell? ⟨w.heap.size, 4, none⟩ = some v4 := by rw [blk_cell h.b0]; rfl
theorem BkMp.d0 (h : BkMp w wr q v4 vm) : wr.cell? ⟨w.heap.size + 1, 0, none⟩ = some (.int .i64 q.f0) := by rw [blk_cell h.b1]; rfl
theorem BkMp.d1 (h : BkMp w wr q v4 vm) : wr.cell? ⟨w.heap.size + 1, 1, none⟩ = some (.int .u32 q.f1) := by rw [blk_cell h.b1]; rfl
theorem BkMp.d2 (h : BkMp w wr q v4 vm) : wr.cell? ⟨w.heap.size + 1, 2, none⟩ = some (.int .i64 q.f2) := by rw [blk_cell h.b1]; rfl
theorem BkMp.d3 (h : BkMp w wr q v4 vm) : wr.cell? ⟨w.heap.size + 1, 3, none⟩ = some (.int .i64 q.f3) := by rw [blk_cell h.b1]; rfl
theorem BkMp.d4 (h : BkMp w wr q v4 vm) : wr.cell? ⟨w.heap.size + 1, 4, none⟩ = some vm := by rw [blk_cell h.b1]; rfl
theorem BkMp.f4 (h : BkMp w wr q v4 vm) (i : Nat) : wr.frozen? ⟨w.heap.size + 1, i, none⟩ = false := blk_frozen h.b1 i
theorem BkMp.lt (h : BkMp w wr q v4 vm) : w.heap.size + 1 < wr.heap.size := blk_lt h.b1
theorem BkMp.below (h : BkMp w wr q v4 vm) (hb : Below wr.heap.size wr w1) : BkMp w w1 q v4 vm := ⟨blk_below h.b0 hb, blk_below h.b1 hb, bthen h.bel hb⟩
theorem BkMp.grown {row : Option Nat} (h : BkMp w wr q v4 vm) (hg : wr.grownBy w1 row) (hr : ∀ k, row = some k → w.heap.size + 1 < k) : BkMp w w1 q v4 vm :=
  ⟨blk_grown h.b0 hg (fun e => by have := hr _ e.symm; omega), blk_grown h.b1 hg (fun e => by have := hr _ e.symm; omega), pw_below_grown h.bel row h.bel.size hg (fun k hk => by have := hr k hk; omega)⟩
theorem BkMp.set4 (h : BkMp w wr q v4 vm) (u : Value) : BkMp w (wr.setCell ⟨w.heap.size + 1, 4, none⟩ u) q v4 u :=
  ⟨blk_far h.b0 (by simp) u, blk_set h.b1 4 u, bset h.bel (by simp) u⟩
theorem BkMp.row {α : Type} {d : Kd α} {e : Nat} {ok : Nat → Prop} {xs : List α} (h : BkMp w wr q v4 vm) (hr : d.R e wr w.heap.size ok u xs) (h1 : e ≠ 54) (h2 : e ≠ 59) : ∀ k, u.ownBlock = some k → w.heap.size + 1 < k := by
  intro k hk
  have a := Kd.R_base hr k hk
  have b : some w.heap.size ≠ u.ownBlock := Kd.R_ne hr h.b0 h1
  have c : some (w.heap.size + 1) ≠ u.ownBlock := Kd.R_ne hr h.b1 h2
  rw [hk] at b c
  have b' : w.heap.size ≠ k := fun e => b (by rw [e])
  have c' : w.heap.size + 1 ≠ k := fun e => c (by rw [e])
  omega
end
set_option maxHeartbeats 8000000 in
set_option maxRecDepth 100000 in
theorem back_c (B : BlkV) (g : Nat) (w : World) (hB : BlockAt w g B) (hM : ∀ x ∈ B.exits, x.f4.length ≤ 1000000) (hO : B.ops.length ≤ 1000000) (hE : B.exits.length ≤ 1000000) :
    Calls Tryd.prog 20 #[.pointer (some ⟨g, 0, none⟩)] w fun e w' => (∃ A0 A1 A2 c0 c1 c2, e = .returned (.agg #[.slice A0 B.pcs.length c0, .slice A1 B.ops.length c1, .slice A2 B.exits.length c2, .int .i64 B.last]) ∧
      (Kd.int .u32).C w' A0 B.pcs.length B.pcs ∧ k38.C w' A1 B.ops.length (B.ops.map opBk) ∧ k59.C w' A2 B.exits.length (B.exits.map exitBk) ∧ B.ops.length ≤ c1 ∧ B.exits.length ≤ c2) ∧ Below w.heap.size w w' := by
  obtain ⟨A0, c0, pc0, k0⟩ := hB.pcs
  obtain ⟨A1, c1, pc1, k1⟩ := hB.ops
  obtain ⟨A2, c2, pc2, k2⟩ := hB.exits
  have pc3 := hB.last
  have hg : g < w.heap.size := World.block_lt_of_cell? w ⟨g, 1, none⟩ pc1
  have hg0 : ¬ g = w.heap.size := by omega
  have hg1 : ¬ g = w.heap.size + 1 := by omega
  have HC0 := Lib.hid k0
  have HC1 := Lib.hid k1
  have HC2 := Lib.hid k2
  have HMM := Lib.hid hM
  obtain ⟨pcs, ops, exits, last⟩ := B
  simp only at pc0 pc1 pc2 pc3 HC0 HC1 HC2 HMM hO hE ⊢
  clear hB hM k0 k1 k2
  go_enter Tryd.func20, Tryd.ntmps20
  go_upto_region 3 with fail
  go_cut [3] from 12 to 20 (fun p wx => p = .pointer (some ⟨w.heap.size + 1, 0, none⟩) ∧ wx = ((w.alloc (.cells #[.slice none 0 0, .slice none 0 0, .slice none 0 0, .int .i64 0] 26)).alloc (.cells #[.slice A0 pcs.length c0, .slice none 0 0, .slice none 0 0, .int .i64 last] 26)).drew)
  case first =>
    go_region_law (fail)
    all_goals
      go_wp2_with fail
      go_meet
      exact ⟨rfl, rfl⟩
  case rest =>
    obtain ⟨rfl, rfl⟩ := hcut
    go_wp2
    go_loopw [4] (fun i wr => ∃ k : Nat, k ≤ ops.length ∧ i = .int .i64 k ∧ ∃ v1, Hid (BkSt w wr (.slice A0 pcs.length c0) last v1 (.slice none 0 0)) ∧ Hid (Kd.R k38 38 wr w.heap.size (fun _ => True) v1 ((ops.map opBk).take k))) (fun i _ => ops.length - (intOf i).toNat)
    case atStart =>
      refine ⟨0, Nat.zero_le _, rfl, .slice none 0 0, Lib.hid ⟨?_, ?_, ?_⟩, Lib.hid (Kd.R_nil _ _ _ _ _)⟩
      · exact blk_drew (blk_alloc (blk_new _ _) _)
      · exact blk_drew (by simpa using blk_new (w.alloc _) _)
      · exact bdn (bal (bal (Below.refl _ _) _) _) 1
    case round =>
      obtain ⟨k, hk, rfl, v1, HS, HR⟩ := hrel
      have e1 := cellk HS.out.bel pc1
      have e2 := HS.out.d1
      have e3 := HS.out.f1 1
      have hlt0 := HS.out.lt
      have hn1 : ¬ w.heap.size + 1 = wr.heap.size := by omega
      have hn2 : ¬ g = wr.heap.size := by omega
      have hlg : g < wr.heap.size := by omega
      by_cases hlt : k < ops.length
      · obtain ⟨ad, rfl, d0, d1, d2, d3, d4, d5⟩ := at_T41 (Kd.C_below HC1.out HS.out.bel) (k : Int) (by omega) (by omega)
        have hq : rd_T41 ops (k : Int) = ops[k] := by simp [rd_T41, hlt]
        have HT := Lib.hid (take_map opBk ops k hlt)
        rw [← hq] at HT
        simp only [Int.toNat_natCast] at d0 d1 d2 d3 d4 d5
        clear hq
        generalize rd_T41 ops (k : Int) = q at *
        have HLEN := Lib.hid (show ((ops.map opBk).take k ++ [opBk q]).length = k + 1 by simp; omega)
        go_wp2
        have HS' := Lib.hid (HS.out.below (bdn (Below.refl _ _) 1))
        have HR' := Lib.hid (Kd.R_drew HR.out)
        go_region_law (refine Kd.R_append_step k38 (w0 := w) w.heap.size rfl (.tmp 31) (.tmp 39) 23 38 (.agg #[.int .i64 0, .int .i64 0, .int .i64 0, .int .u32 0, .int .i64 0, .int .i64 0]) 48 rfl Tryd.underlying23 infoOpR rfl (by decide) (by decide) v1 ((ops.map opBk).take k) (opBk q) [.int .i64 q.f0, .int .i64 q.f1, .int .i64 q.f2, .int .u32 q.f3, .int .i64 q.f4, .int .i64 q.f5] (fun _ => True) (fun _ => False) rfl rfl (k38_mkM _ _ _ _) (fun _ hk => hk.elim) (fun _ _ => trivial) HR'.out HS'.out.bel HS'.out.bel.size (by simp; omega) ?_; intro v3 w3 ho3 hb3 hg3 hat3; have HS3 := Lib.hid (HS'.out.grown hg3 (HS'.out.row HR'.out (by decide))); obtain ⟨A3, c3, hv3⟩ := Kd.R_slice ho3; rw [HLEN.out] at hv3; subst hv3; have HR3 := Lib.hid ho3; have e5 := HS3.out.d1; have e6 := HS3.out.f1 1; clear ho3 hb3 hg3 hat3)
        all_goals
          go_wp2
          go_roundw
          case rel => exact ⟨k + 1, by omega, by go_num, _, Lib.hid (HS3.out.set1 _), Lib.hid (by rw [HT.out]; exact Kd.R_set HR3.out HS3.out.b1 (by decide) 1 _)⟩
          case measure => simp [intOf]; omega
      · have hke : ops.length = k := by omega
        have hR := HR.out
        rw [← hke, show ops.length = (ops.map opBk).length by simp, List.take_length] at hR
        have HR1 := Lib.hid hR
        have e4 := cellk HS.out.bel pc2
        clear hR HR e2 e3
        go_wp2
        go_loopw [5] (fun i wr2 => ∃ k : Nat, k ≤ exits.length ∧ i = .int .i64 k ∧ ∃ v2, Hid (BkSt w wr2 (.slice A0 pcs.length c0) last v1 v2) ∧ Hid (Kd.R k38 38 wr2 w.heap.size (fun _ => True) v1 (ops.map opBk)) ∧ Hid (Kd.R k59 59 wr2 w.heap.size (fun _ => True) v2 ((exits.map exitBk).take k))) (fun i _ => exits.length - (intOf i).toNat)
        case atStart => exact ⟨0, Nat.zero_le _, rfl, .slice none 0 0, HS, HR1, Lib.hid (Kd.R_nil _ _ _ _ _)⟩
        case round =>
          clear HS HR1 e1 e4 hlt0 hn1 hn2 hlg hlt hk hke
          obtain ⟨k, hk, rfl, v2, HS, HR1, HR2⟩ := hrel
          obtain ⟨wm, hwm⟩ : ∃ wm, wm = wr := ⟨_, rfl⟩
          subst hwm
          have e4 := cellk HS.out.bel pc2
          by_cases hlt : k < exits.length
          · obtain ⟨ad, A4, c4, rfl, d0, d1, d2, d3, d4, l4, k4⟩ := at_T54 (Kd.C_below HC2.out HS.out.bel) (k : Int) (by omega) (by omega)
            have hq : rd_T54 exits (k : Int) = exits[k] := by simp [rd_T54, hlt]
            have HT := Lib.hid (take_map exitBk exits k hlt)
            have hm := HMM.out exits[k] (List.getElem_mem hlt)
            rw [← hq] at HT hm
            simp only [Int.toNat_natCast] at d0 d1 d2 d3 d4
            have HK4 := Lib.hid k4
            clear hq k4
            generalize rd_T54 exits (k : Int) = q at *
            go_wp2
            go_loopw [8] (fun i wr3 => ∃ j : Nat, j ≤ q.f4.length ∧ i = .int .i64 j ∧ ∃ vm, Hid (BkMp wm wr3 q (.slice A4 q.f4.length c4) vm) ∧ Hid (Kd.R k62 62 wr3 wm.heap.size (fun _ => True) vm ((q.f4.map valBk).take j))) (fun i _ => q.f4.length - (intOf i).toNat)
            case atStart =>
              refine ⟨0, Nat.zero_le _, rfl, .slice none 0 0, Lib.hid ⟨?_, ?_, ?_⟩, Lib.hid (Kd.R_nil _ _ _ _ _)⟩
              · exact blk_alloc (blk_new _ _) _
              · simpa using blk_new (wm.alloc _) _
              · exact bal (bal (Below.refl _ _) _) _
            case round =>
              obtain ⟨j, hj, rfl, vm, HP, HRm⟩ := hrel
              have g0 := HP.out.c4
              have hl0 := HP.out.lt
              have hl1' := HS.out.lt
              have hn0 : ¬ wm.heap.size = wr.heap.size := by omega
              have hn1 : ¬ wm.heap.size + 1 = wr.heap.size := by omega
              have hn2 : ¬ w.heap.size + 1 = wr.heap.size := by omega
              have hl3 : w.heap.size + 1 < wr.heap.size := by omega
              by_cases hlt2 : j < q.f4.length
              · have g1 := HP.out.d4
                have g2 := HP.out.f4 4
                obtain ⟨ad2, rfl, x0, x1⟩ := at_T56 (Kd.C_below HK4.out HP.out.bel) (j : Int) (by omega) (by omega)
                have hq : rd_T56 q.f4 (j : Int) = q.f4[j] := by simp [rd_T56, hlt2]
                have HT2 := Lib.hid (take_map valBk q.f4 j hlt2)
                rw [← hq] at HT2
                simp only [Int.toNat_natCast] at x0 x1
                clear hq
                generalize rd_T56 q.f4 (j : Int) = y at *
                have HLEN := Lib.hid (show ((q.f4.map valBk).take j ++ [valBk y]).length = j + 1 by simp; omega)
                go_wp2
                have HP' := Lib.hid (HP.out.below (bdn (Below.refl _ _) 1))
                have HR' := Lib.hid (Kd.R_drew HRm.out)
                go_region_law (refine Kd.R_append_step k62 (w0 := wm) wm.heap.size rfl (.tmp 75) (.tmp 81) 57 62 (.agg #[.int .i64 0, .int .i64 0]) 16 rfl Tryd.underlying57 infoValR rfl (by decide) (by decide) vm ((q.f4.map valBk).take j) (valBk y) [.int .i64 y.f0, .int .i64 y.f1] (fun _ => True) (fun _ => False) rfl rfl (k62_mkM _ _ _ _) (fun _ hk => hk.elim) (fun _ _ => trivial) HR'.out HP'.out.bel HP'.out.bel.size (by simp; omega) ?_; intro v3 w3 ho3 hb3 hg3 hat3; have HP3 := Lib.hid (HP'.out.grown hg3 (HP'.out.row HR'.out (by decide) (by decide))); obtain ⟨A3, c3, hv3⟩ := Kd.R_slice ho3; rw [HLEN.out] at hv3; subst hv3; have HR3 := Lib.hid ho3; have e5 := HP3.out.d4; have e6 := HP3.out.f4 4; clear ho3 hb3 hg3 hat3)
                all_goals
                  go_wp2
                  go_roundw
                  case rel => exact ⟨j + 1, by omega, by go_num, _, Lib.hid (HP3.out.set4 _), Lib.hid (by rw [HT2.out]; exact Kd.R_set HR3.out HP3.out.b1 (by decide) 4 _)⟩
                  case measure => simp [intOf]; omega
              · have hje : q.f4.length = j := by omega
                have hRm := HRm.out
                rw [← hje, show q.f4.length = (q.f4.map valBk).length by simp, List.take_length] at hRm
                have hokp : Kd.R k62 62 wr w.heap.size (fun k => wm.heap.size ≤ k) vm (q.f4.map valBk) := Kd.R_mono (Kd.R_lower (Kd.R_bound hRm) HS.out.bel.size) (fun k hk => hk.2.1)
                obtain ⟨Am, cm, hvm⟩ := Kd.R_slice hRm
                rw [List.length_map] at hvm
                subst hvm
                have HRm1 := Lib.hid hokp
                have HS' := Lib.hid (HS.out.below HP.out.bel)
                have HR1' := Lib.hid (Kd.R_below HR1.out HP.out.bel)
                have HR2' := Lib.hid (Kd.R_below HR2.out HP.out.bel)
                have HLT2 := Lib.hid (fun k hk => Kd.R_lt HR2.out k hk)
                have HLEN := Lib.hid (show ((exits.map exitBk).take k ++ [exitBk q]).length = k + 1 by simp; omega)
                have i0 := HP.out.d0
                have i1 := HP.out.d1
                have i2 := HP.out.d2
                have i3 := HP.out.d3
                have i4 := HP.out.d4
                have i5 := (HS.out.below HP.out.bel).d2
                have i6 := (HS.out.below HP.out.bel).f1 2
                clear hje hRm hokp HRm e4 d0 d1 d2 d3 d4
                go_wp2_with (at_builtin; refine Kd.R_append k59 (w0 := w) w.heap.size rfl _ _ 24 59 (.agg #[.int .i64 0, .int .u32 0, .int .i64 0, .int .i64 0, .slice none 0 0]) 56 rfl Tryd.underlying24 infoExitR rfl (by decide) (by decide) v2 ((exits.map exitBk).take k) (exitBk q) [.int .i64 q.f0, .int .u32 q.f1, .int .i64 q.f2, .int .i64 q.f3, .slice Am q.f4.length cm] (fun _ => True) (fun k => wm.heap.size ≤ k) rfl rfl (k59_mkM _ _ _ _ HRm1.out) (fun k hk => ⟨trivial, fun e => by have := HLT2.out k e.symm; omega⟩) (fun _ _ => trivial) HR2'.out HS'.out.bel HS'.out.bel.size (by simp; omega) ?_)
                intro v3 w3 ho3 hb3 hg3 hat3
                have HS3 := Lib.hid (HS'.out.grown hg3 (HS'.out.row HR2'.out (by decide)))
                have HR13 := Lib.hid (Kd.R_over HR1'.out HR2'.out (by decide) hg3)
                obtain ⟨A3, c3, hv3⟩ := Kd.R_slice ho3
                rw [HLEN.out] at hv3
                subst hv3
                have HR3 := Lib.hid ho3
                have e5 := HS3.out.d2
                have e6 := HS3.out.f1 2
                clear ho3 hb3 hg3 hat3
                go_wp2
                go_roundw
                case rel => exact ⟨k + 1, by omega, by go_num, _, Lib.hid (HS3.out.set2 _), Lib.hid (Kd.R_set HR13.out HS3.out.b1 (by decide) 2 _), Lib.hid (by rw [HT.out]; exact Kd.R_set HR3.out HS3.out.b1 (by decide) 2 _)⟩
                case measure => simp [intOf]; omega
          · have hke : exits.length = k := by omega
            have hR := HR2.out
            rw [← hke, show exits.length = (exits.map exitBk).length by simp, List.take_length] at hR
            have HR2' := Lib.hid hR
            clear hR
            obtain ⟨P1, C1, hv1, hl1, hc1⟩ := Kd.R_reads HR1.out
            obtain ⟨P2, C2, hv2, hl2, hc2⟩ := Kd.R_reads HR2'.out
            rw [List.length_map] at hv1 hl1 hc1 hv2 hl2 hc2
            subst hv1 hv2
            have i0 := HS.out.d0
            have i1 := HS.out.d1
            have i2 := HS.out.d2
            have i3 := HS.out.d3
            have j0 := HS.out.f0 0
            have j1 := HS.out.f0 1
            have j2 := HS.out.f0 2
            have j3 := HS.out.f0 3
            have z0 : wm.cell? ⟨w.heap.size, 0, none⟩ = some (.slice none 0 0) := by rw [blk_cell HS.out.b0]; rfl
            have z1 : wm.cell? ⟨w.heap.size, 1, none⟩ = some (.slice none 0 0) := by rw [blk_cell HS.out.b0]; rfl
            have z2 : wm.cell? ⟨w.heap.size, 2, none⟩ = some (.slice none 0 0) := by rw [blk_cell HS.out.b0]; rfl
            have z3 : wm.cell? ⟨w.heap.size, 3, none⟩ = some (.int .i64 0) := by rw [blk_cell HS.out.b0]; rfl
            have HB := Lib.hid HS.out.bel
            have b' := blk_set (blk_set (blk_set (blk_set HS.out.b0 0 (.slice A0 pcs.length c0)) 1 (.slice P1 ops.length C1)) 2 (.slice P2 exits.length C2)) 3 (.int .i64 last)
            have hbel : Below w.heap.size w ((((wm.setCell ⟨w.heap.size, 0, none⟩ (.slice A0 pcs.length c0)).setCell ⟨w.heap.size, 1, none⟩ (.slice P1 ops.length C1)).setCell ⟨w.heap.size, 2, none⟩ (.slice P2 exits.length C2)).setCell ⟨w.heap.size, 3, none⟩ (.int .i64 last)) := bset (bset (bset (bset HS.out.bel (Nat.le_refl _) _) (Nat.le_refl _) _) (Nat.le_refl _) _) (Nat.le_refl _) _
            have hr1 := Kd.R_set (Kd.R_set (Kd.R_set (Kd.R_set HR1.out HS.out.b0 (by decide) 0 (.slice A0 pcs.length c0)) (blk_set HS.out.b0 0 _) (by decide) 1 (.slice P1 ops.length C1)) (blk_set (blk_set HS.out.b0 0 _) 1 _) (by decide) 2 (.slice P2 exits.length C2)) (blk_set (blk_set (blk_set HS.out.b0 0 _) 1 _) 2 _) (by decide) 3 (.int .i64 last)
            have hr2 := Kd.R_set (Kd.R_set (Kd.R_set (Kd.R_set HR2'.out HS.out.b0 (by decide) 0 (.slice A0 pcs.length c0)) (blk_set HS.out.b0 0 _) (by decide) 1 (.slice P1 ops.length C1)) (blk_set (blk_set HS.out.b0 0 _) 1 _) (by decide) 2 (.slice P2 exits.length C2)) (blk_set (blk_set (blk_set HS.out.b0 0 _) 1 _) 2 _) (by decide) 3 (.int .i64 last)
            have hq1 := (Kd.R_reads' hr1).2.2
            have hq2 := (Kd.R_reads' hr2).2.2
            rw [List.length_map] at hq1 hq2
            have HB1 := Lib.hid b'
            have HB2 := Lib.hid hbel
            have HB3 := Lib.hid hq1
            have HB4 := Lib.hid hq2
            clear HS HR1 HR2 HR2' hke hk b' hbel hr1 hr2 hq1 hq2
            go_wp2
            generalize hW : ((((wm.setCell ⟨w.heap.size, 0, none⟩ (.slice A0 pcs.length c0)).setCell ⟨w.heap.size, 1, none⟩ (.slice P1 ops.length C1)).setCell ⟨w.heap.size, 2, none⟩ (.slice P2 exits.length C2)).setCell ⟨w.heap.size, 3, none⟩ (.int .i64 last)) = W at *
            have hb2 : W.heap[w.heap.size]? = some (.cells #[.slice A0 pcs.length c0, .slice P1 ops.length C1, .slice P2 exits.length C2, .int .i64 last] 26 (0, 0)) := HB1.out
            clear hW z0 z1 z2 z3 j0 j1 j2 j3
            try simp only [Exit.inBlock, Exit.then]
            refine bodyPost_ret (results_cell_row rfl _ _ w.heap.size 26 _ (0, 0) _ rfl hb2 Tryd.underlying26 rfl (by kernel_rfl)) rfl ?_
            exact ⟨⟨A0, P1, P2, c0, C1, C2, rfl, Kd.C_below HC0.out HB2.out, HB3.out, HB4.out, hl1, hl2⟩, HB2.out⟩
end Go.Proofs.YtlnbghhhifnbdaaDoor

/- Contracts of the library's Equal over words, operations and map entries, and of the reference's SameMaps: do two lists hold the same? Conditions: the slices read as the lists, which have at most a million entries. -/
namespace Go.Proofs.YtlnbghhhifnbdaaDoor
open Go.RowKit Go.Proofs.YtlnbghhhifnbdaaDoorW.PrintWords Go.Proofs.YtlnbghhhifnbdaaDoor.PIrTexts
set_option linter.unusedVariables false
set_option linter.unusedSimpArgs false

theorem part_i (t : TypeId) (k : IntKind) (h : Tryd.prog.underlying t = some (.int k)) (xs : Array Value) (i : Nat) (x : Value) (hx : xs[i]? = some x) (w : World) : (part t xs i).run Tryd.prog w = .ok x w := by
  simp [part, isAgg, run_underlying h, hx, go_sem]
theorem take_eq {α : Type} (xs ys : List α) (k : Nat) (hx : k < xs.length) (hy : k < ys.length) (h : xs.take k = ys.take k) (he : xs[k] = ys[k]) : xs.take (k + 1) = ys.take (k + 1) := by
  rw [List.take_succ_eq_append_getElem hx, List.take_succ_eq_append_getElem hy, h, he]
theorem ne_at {α : Type} (xs ys : List α) (k : Nat) (hx : k < xs.length) (hy : k < ys.length) (h : ¬ xs[k] = ys[k]) : ¬ xs = ys := by
  intro e
  subst e
  exact h rfl
theorem nlen {α : Type} (xs ys : List α) (h : ¬ xs.length = ys.length) : ¬ xs = ys := fun e => h (by rw [e])
theorem eq_rval (p q : S62) (v : World) : (Op.equalIn 10000 62 (.agg #[.int .i64 p.f0, .int .i64 p.f1]) (.agg #[.int .i64 q.f0, .int .i64 q.f1])).run Tryd.prog v = .ok (p.f0 == q.f0 && (p.f1 == q.f1)) v := by
  refine eqA_of (d := 9999) Tryd.underlying62 (by kernel_rfl) ?_
  refine eqf_cons (by decide) (part_i 3 .i64 Tryd.underlying3 _ 0 _ rfl v) (part_i 3 .i64 Tryd.underlying3 _ 0 _ rfl v) (run_equalIn_int v _ 3 .i64 .i64 _ _ Tryd.underlying3) ?_
  exact eqf_last (by decide) (part_i 3 .i64 Tryd.underlying3 _ 1 _ rfl v) (part_i 3 .i64 Tryd.underlying3 _ 1 _ rfl v) (run_equalIn_int v _ 3 .i64 .i64 _ _ Tryd.underlying3)
theorem eq_val (p q : S56) (v : World) : (Op.equalIn 10000 56 (.agg #[.int .i64 p.f0, .int .i64 p.f1]) (.agg #[.int .i64 q.f0, .int .i64 q.f1])).run Tryd.prog v = .ok (p.f0 == q.f0 && (p.f1 == q.f1)) v := by
  refine eqA_of (d := 9999) Tryd.underlying56 (by kernel_rfl) ?_
  refine eqf_cons (by decide) (part_i 3 .i64 Tryd.underlying3 _ 0 _ rfl v) (part_i 3 .i64 Tryd.underlying3 _ 0 _ rfl v) (run_equalIn_int v _ 3 .i64 .i64 _ _ Tryd.underlying3) ?_
  exact eqf_last (by decide) (part_i 3 .i64 Tryd.underlying3 _ 1 _ rfl v) (part_i 3 .i64 Tryd.underlying3 _ 1 _ rfl v) (run_equalIn_int v _ 3 .i64 .i64 _ _ Tryd.underlying3)
theorem eq_op (p q : S41) (v : World) : (Op.equalIn 10000 41 (.agg #[.int .i64 p.f0, .int .i64 p.f1, .int .i64 p.f2, .int .u32 p.f3, .int .i64 p.f4, .int .i64 p.f5]) (.agg #[.int .i64 q.f0, .int .i64 q.f1, .int .i64 q.f2, .int .u32 q.f3, .int .i64 q.f4, .int .i64 q.f5])).run Tryd.prog v = .ok (p.f0 == q.f0 && (p.f1 == q.f1 && (p.f2 == q.f2 && (p.f3 == q.f3 && (p.f4 == q.f4 && (p.f5 == q.f5)))))) v := by
  refine eqA_of (d := 9999) Tryd.underlying41 (by kernel_rfl) ?_
  refine eqf_cons (by decide) (part_i 3 .i64 Tryd.underlying3 _ 0 _ rfl v) (part_i 3 .i64 Tryd.underlying3 _ 0 _ rfl v) (run_equalIn_int v _ 3 .i64 .i64 _ _ Tryd.underlying3) ?_
  refine eqf_cons (by decide) (part_i 3 .i64 Tryd.underlying3 _ 1 _ rfl v) (part_i 3 .i64 Tryd.underlying3 _ 1 _ rfl v) (run_equalIn_int v _ 3 .i64 .i64 _ _ Tryd.underlying3) ?_
  refine eqf_cons (by decide) (part_i 3 .i64 Tryd.underlying3 _ 2 _ rfl v) (part_i 3 .i64 Tryd.underlying3 _ 2 _ rfl v) (run_equalIn_int v _ 3 .i64 .i64 _ _ Tryd.underlying3) ?_
  refine eqf_cons (by decide) (part_i 36 .u32 Tryd.underlying36 _ 3 _ rfl v) (part_i 36 .u32 Tryd.underlying36 _ 3 _ rfl v) (run_equalIn_int v _ 36 .u32 .u32 _ _ Tryd.underlying36) ?_
  refine eqf_cons (by decide) (part_i 3 .i64 Tryd.underlying3 _ 4 _ rfl v) (part_i 3 .i64 Tryd.underlying3 _ 4 _ rfl v) (run_equalIn_int v _ 3 .i64 .i64 _ _ Tryd.underlying3) ?_
  exact eqf_last (by decide) (part_i 3 .i64 Tryd.underlying3 _ 5 _ rfl v) (part_i 3 .i64 Tryd.underlying3 _ 5 _ rfl v) (run_equalIn_int v _ 3 .i64 .i64 _ _ Tryd.underlying3)
theorem eq_rop (p q : S38) (v : World) : (Op.equalIn 10000 38 (.agg #[.int .i64 p.f0, .int .i64 p.f1, .int .i64 p.f2, .int .u32 p.f3, .int .i64 p.f4, .int .i64 p.f5]) (.agg #[.int .i64 q.f0, .int .i64 q.f1, .int .i64 q.f2, .int .u32 q.f3, .int .i64 q.f4, .int .i64 q.f5])).run Tryd.prog v = .ok (p.f0 == q.f0 && (p.f1 == q.f1 && (p.f2 == q.f2 && (p.f3 == q.f3 && (p.f4 == q.f4 && (p.f5 == q.f5)))))) v := by
  refine eqA_of (d := 9999) Tryd.underlying38 (by kernel_rfl) ?_
  refine eqf_cons (by decide) (part_i 3 .i64 Tryd.underlying3 _ 0 _ rfl v) (part_i 3 .i64 Tryd.underlying3 _ 0 _ rfl v) (run_equalIn_int v _ 3 .i64 .i64 _ _ Tryd.underlying3) ?_
  refine eqf_cons (by decide) (part_i 3 .i64 Tryd.underlying3 _ 1 _ rfl v) (part_i 3 .i64 Tryd.underlying3 _ 1 _ rfl v) (run_equalIn_int v _ 3 .i64 .i64 _ _ Tryd.underlying3) ?_
  refine eqf_cons (by decide) (part_i 3 .i64 Tryd.underlying3 _ 2 _ rfl v) (part_i 3 .i64 Tryd.underlying3 _ 2 _ rfl v) (run_equalIn_int v _ 3 .i64 .i64 _ _ Tryd.underlying3) ?_
  refine eqf_cons (by decide) (part_i 36 .u32 Tryd.underlying36 _ 3 _ rfl v) (part_i 36 .u32 Tryd.underlying36 _ 3 _ rfl v) (run_equalIn_int v _ 36 .u32 .u32 _ _ Tryd.underlying36) ?_
  refine eqf_cons (by decide) (part_i 3 .i64 Tryd.underlying3 _ 4 _ rfl v) (part_i 3 .i64 Tryd.underlying3 _ 4 _ rfl v) (run_equalIn_int v _ 3 .i64 .i64 _ _ Tryd.underlying3) ?_
  exact eqf_last (by decide) (part_i 3 .i64 Tryd.underlying3 _ 5 _ rfl v) (part_i 3 .i64 Tryd.underlying3 _ 5 _ rfl v) (run_equalIn_int v _ 3 .i64 .i64 _ _ Tryd.underlying3)
set_option maxHeartbeats 4000000 in
set_option maxRecDepth 100000 in
theorem samemaps_c (A1 A2 : Option Addr) (c1 c2 : Nat) (xs ys : List S62) (hx : xs.length ≤ 1000000) (hy : ys.length ≤ 1000000) (w : World) (hC1 : k62.C w A1 xs.length xs) (hC2 : k62.C w A2 ys.length ys) :
    Calls Tryd.prog 41 #[.slice A1 xs.length c1, .slice A2 ys.length c2] w fun e w' => (∃ r, e = .returned (.bool r) ∧ (r = true ↔ xs = ys)) ∧ Below w.heap.size w w' := by
  have HC1 := Lib.hid hC1
  have HC2 := Lib.hid hC2
  clear hC1 hC2
  by_cases hl : xs.length = ys.length
  case neg =>
    have hn := nlen xs ys hl
    have hl2 : ((xs.length : Int) != (ys.length : Int)) = true := by simpa using fun e : (xs.length : Int) = ys.length => hl (by omega)
    have HN := Lib.hid hn
    clear hn
    go_enter Tryd.func41, Tryd.ntmps41
    go_wp2
    go_ret
    exact ⟨⟨false, rfl, by simpa using HN.out⟩, Below.refl _ _⟩
  have hl2 : (ys.length : Int) = xs.length := by omega
  generalize hly' : ys.length = ly at *
  obtain rfl : ly = xs.length := hl.symm
  go_enter Tryd.func41, Tryd.ntmps41
  go_wp2
  go_loopw [5] (fun i wr => ∃ k : Nat, k ≤ xs.length ∧ i = .int .i64 k ∧ Hid (xs.take k = ys.take k) ∧ Hid (Below w.heap.size w wr)) (fun i _ => xs.length - (intOf i).toNat)
  case atStart => exact ⟨0, Nat.zero_le _, rfl, Lib.hid rfl, Lib.hid (Below.refl _ _)⟩
  case round =>
    obtain ⟨k, hk, rfl, HT, HB⟩ := hrel
    by_cases hlt : k < xs.length
    · have hly : k < ys.length := by omega
      obtain ⟨ad, rfl, d0, d1⟩ := at_T62 (Kd.C_below HC1.out HB.out) (k : Int) (by omega) (by omega)
      obtain ⟨ad2, rfl, e0, e1⟩ := at_T62 (Kd.C_below HC2.out HB.out) (k : Int) (by omega) (by omega)
      have HE := Lib.hid (fun h : xs[k] = ys[k] => take_eq xs ys k hlt hly HT.out h)
      have HN := Lib.hid (fun h : ¬ xs[k] = ys[k] => ne_at xs ys k hlt hly h)
      rw [← (show rd_T62 xs (k : Int) = xs[k] by simp [rd_T62, hlt]), ← (show rd_T62 ys (k : Int) = ys[k] by simp [rd_T62, hly])] at HE HN
      simp only [Int.toNat_natCast] at d0 d1 e0 e1
      generalize rd_T62 xs (k : Int) = p at *
      generalize rd_T62 ys (k : Int) = q at *
      have i0 : (0 : Int) ≤ (k : Int) := by omega
      have i1 : (k : Int) < (xs.length : Int) := by omega
      have hE := fun v => eq_rval p q v
      have hG : Tryd.prog.eqGuardType Tryd.prog.depth 62 = false := by kernel_rfl
      have hcase : (p = q ∧ (p.f0 == q.f0 && (p.f1 == q.f1)) = true) ∨ (¬ p = q ∧ (p.f0 == q.f0 && (p.f1 == q.f1)) = false) := by
        by_cases h : (p.f0 == q.f0 && (p.f1 == q.f1)) = true
        · refine .inl ⟨?_, h⟩
          simp only [Bool.and_eq_true, beq_iff_eq] at h
          cases p
          cases q
          simp only [S62.mk.injEq]
          exact h
        · exact .inr ⟨fun e => h (by rw [e]; simp), by simpa using h⟩
      rcases hcase with ⟨hpq, hb⟩ | ⟨hpq, hb⟩
      · simp only [hb] at hE
        have HE' := Lib.hid (HE.out hpq)
        clear HE HN hpq
        go_wp2
        refine wp_region_below (by kernel_rfl) (by kernel_rfl) ?_
        intro Sx _ F hF hS
        have z1 := fun s => cellk (hF s) d0
        have yd0 := fun s => cellk (hF s) d0
        have yd1 := fun s => cellk (hF s) d1
        have ye0 := fun s => cellk (hF s) e0
        have ye1 := fun s => cellk (hF s) e1
        repeat (go_big_quiet_step (fail))
        refine wpQuiet_nil ?_
        intro w3 hw3
        obtain ⟨s2, rfl⟩ := hw3
        have HB3 := Lib.hid (bthen HB.out (hF s2))
        clear z1 yd0 yd1 ye0 ye1 hF hS
        generalize F s2 = w3 at *
        go_wp2
        go_roundw
        case rel => exact ⟨k + 1, by omega, by go_num, HE', HB3⟩
        case measure => simp [intOf]; omega
      · simp only [hb] at hE
        have HN' := Lib.hid (HN.out hpq)
        clear HE HN hpq
        go_wp2
        refine wp_region_below (by kernel_rfl) (by kernel_rfl) ?_
        intro Sx _ F hF hS
        have z1 := fun s => cellk (hF s) d0
        have yd0 := fun s => cellk (hF s) d0
        have yd1 := fun s => cellk (hF s) d1
        have ye0 := fun s => cellk (hF s) e0
        have ye1 := fun s => cellk (hF s) e1
        repeat (go_big_quiet_step (fail))
        refine wpQuiet_nil ?_
        intro w3 hw3
        obtain ⟨s2, rfl⟩ := hw3
        have HB3 := Lib.hid (bthen HB.out (hF s2))
        clear z1 yd0 yd1 ye0 ye1 hF hS
        generalize F s2 = w3 at *
        go_wp2
        go_ret
        exact ⟨⟨false, rfl, by simpa using HN'.out⟩, HB3.out⟩
    · obtain hke : xs.length = k := by omega
      have hT := HT.out
      rw [← hke, List.take_length, List.take_of_length_le (by omega)] at hT
      have HT' := Lib.hid hT
      clear hT HT hke
      go_wp2
      go_ret
      exact ⟨⟨true, rfl, by simpa using HT'.out⟩, HB.out⟩
set_option maxHeartbeats 4000000 in
set_option maxRecDepth 100000 in
theorem eqval_c (A1 A2 : Option Addr) (c1 c2 : Nat) (xs ys : List S56) (hx : xs.length ≤ 1000000) (hy : ys.length ≤ 1000000) (w : World) (hC1 : k56.C w A1 xs.length xs) (hC2 : k56.C w A2 ys.length ys) :
    Calls Tryd.prog 43 #[.slice A1 xs.length c1, .slice A2 ys.length c2] w fun e w' => (∃ r, e = .returned (.bool r) ∧ (r = true ↔ xs = ys)) ∧ Below w.heap.size w w' := by
  have HC1 := Lib.hid hC1
  have HC2 := Lib.hid hC2
  clear hC1 hC2
  by_cases hl : xs.length = ys.length
  case neg =>
    have hn := nlen xs ys hl
    have hl2 : ((xs.length : Int) != (ys.length : Int)) = true := by simpa using fun e : (xs.length : Int) = ys.length => hl (by omega)
    have HN := Lib.hid hn
    clear hn
    go_enter Tryd.func43, Tryd.ntmps43
    go_wp2
    go_ret
    exact ⟨⟨false, rfl, by simpa using HN.out⟩, Below.refl _ _⟩
  have hl2 : (ys.length : Int) = xs.length := by omega
  generalize hly' : ys.length = ly at *
  obtain rfl : ly = xs.length := hl.symm
  go_enter Tryd.func43, Tryd.ntmps43
  go_wp2
  go_loopw [13] (fun i wr => ∃ k : Nat, k ≤ xs.length ∧ i = .int .i64 k ∧ Hid (xs.take k = ys.take k) ∧ Hid (Below w.heap.size w wr)) (fun i _ => xs.length - (intOf i).toNat)
  case atStart => exact ⟨0, Nat.zero_le _, rfl, Lib.hid rfl, Lib.hid (Below.refl _ _)⟩
  case round =>
    obtain ⟨k, hk, rfl, HT, HB⟩ := hrel
    by_cases hlt : k < xs.length
    · have hly : k < ys.length := by omega
      obtain ⟨ad, rfl, d0, d1⟩ := at_T56 (Kd.C_below HC1.out HB.out) (k : Int) (by omega) (by omega)
      obtain ⟨ad2, rfl, e0, e1⟩ := at_T56 (Kd.C_below HC2.out HB.out) (k : Int) (by omega) (by omega)
      have HE := Lib.hid (fun h : xs[k] = ys[k] => take_eq xs ys k hlt hly HT.out h)
      have HN := Lib.hid (fun h : ¬ xs[k] = ys[k] => ne_at xs ys k hlt hly h)
      rw [← (show rd_T56 xs (k : Int) = xs[k] by simp [rd_T56, hlt]), ← (show rd_T56 ys (k : Int) = ys[k] by simp [rd_T56, hly])] at HE HN
      simp only [Int.toNat_natCast] at d0 d1 e0 e1
      generalize rd_T56 xs (k : Int) = p at *
      generalize rd_T56 ys (k : Int) = q at *
      have i0 : (0 : Int) ≤ (k : Int) := by omega
      have i1 : (k : Int) < (xs.length : Int) := by omega
      have hE := fun v => eq_val p q v
      have hG : Tryd.prog.eqGuardType Tryd.prog.depth 56 = false := by kernel_rfl
      have hcase : (p = q ∧ (p.f0 == q.f0 && (p.f1 == q.f1)) = true) ∨ (¬ p = q ∧ (p.f0 == q.f0 && (p.f1 == q.f1)) = false) := by
        by_cases h : (p.f0 == q.f0 && (p.f1 == q.f1)) = true
        · refine .inl ⟨?_, h⟩
          simp only [Bool.and_eq_true, beq_iff_eq] at h
          cases p
          cases q
          simp only [S56.mk.injEq]
          exact h
        · exact .inr ⟨fun e => h (by rw [e]; simp), by simpa using h⟩
      rcases hcase with ⟨hpq, hb⟩ | ⟨hpq, hb⟩
      · simp only [hb] at hE
        have HE' := Lib.hid (HE.out hpq)
        clear HE HN hpq
        go_wp2
        refine wp_region_below (by kernel_rfl) (by kernel_rfl) ?_
        intro Sx _ F hF hS
        have z1 := fun s => cellk (hF s) d0
        have yd0 := fun s => cellk (hF s) d0
        have yd1 := fun s => cellk (hF s) d1
        have ye0 := fun s => cellk (hF s) e0
        have ye1 := fun s => cellk (hF s) e1
        repeat (go_big_quiet_step (fail))
        refine wpQuiet_nil ?_
        intro w3 hw3
        obtain ⟨s2, rfl⟩ := hw3
        have HB3 := Lib.hid (bthen HB.out (hF s2))
        clear z1 yd0 yd1 ye0 ye1 hF hS
        generalize F s2 = w3 at *
        go_wp2
        go_roundw
        case rel => exact ⟨k + 1, by omega, by go_num, HE', HB3⟩
        case measure => simp [intOf]; omega
      · simp only [hb] at hE
        have HN' := Lib.hid (HN.out hpq)
        clear HE HN hpq
        go_wp2
        refine wp_region_below (by kernel_rfl) (by kernel_rfl) ?_
        intro Sx _ F hF hS
        have z1 := fun s => cellk (hF s) d0
        have yd0 := fun s => cellk (hF s) d0
        have yd1 := fun s => cellk (hF s) d1
        have ye0 := fun s => cellk (hF s) e0
        have ye1 := fun s => cellk (hF s) e1
        repeat (go_big_quiet_step (fail))
        refine wpQuiet_nil ?_
        intro w3 hw3
        obtain ⟨s2, rfl⟩ := hw3
        have HB3 := Lib.hid (bthen HB.out (hF s2))
        clear z1 yd0 yd1 ye0 ye1 hF hS
        generalize F s2 = w3 at *
        go_wp2
        go_ret
        exact ⟨⟨false, rfl, by simpa using HN'.out⟩, HB3.out⟩
    · obtain hke : xs.length = k := by omega
      have hT := HT.out
      rw [← hke, List.take_length, List.take_of_length_le (by omega)] at hT
      have HT' := Lib.hid hT
      clear hT HT hke
      go_wp2
      go_ret
      exact ⟨⟨true, rfl, by simpa using HT'.out⟩, HB.out⟩
set_option maxHeartbeats 4000000 in
set_option maxRecDepth 100000 in
theorem eqword_c (A1 A2 : Option Addr) (c1 c2 : Nat) (xs ys : List Int) (hx : xs.length ≤ 1000000) (hy : ys.length ≤ 1000000) (w : World) (hC1 : (Kd.int .u32).C w A1 xs.length xs) (hC2 : (Kd.int .u32).C w A2 ys.length ys) :
    Calls Tryd.prog 44 #[.slice A1 xs.length c1, .slice A2 ys.length c2] w fun e w' => (∃ r, e = .returned (.bool r) ∧ (r = true ↔ xs = ys)) ∧ Below w.heap.size w w' := by
  have HC1 := Lib.hid hC1
  have HC2 := Lib.hid hC2
  clear hC1 hC2
  by_cases hl : xs.length = ys.length
  case neg =>
    have hn := nlen xs ys hl
    have hl2 : ((xs.length : Int) != (ys.length : Int)) = true := by simpa using fun e : (xs.length : Int) = ys.length => hl (by omega)
    have HN := Lib.hid hn
    clear hn
    go_enter Tryd.func44, Tryd.ntmps44
    go_wp2
    go_ret
    exact ⟨⟨false, rfl, by simpa using HN.out⟩, Below.refl _ _⟩
  have hl2 : (ys.length : Int) = xs.length := by omega
  generalize hly' : ys.length = ly at *
  obtain rfl : ly = xs.length := hl.symm
  go_enter Tryd.func44, Tryd.ntmps44
  go_wp2
  go_loopw [13] (fun i wr => ∃ k : Nat, k ≤ xs.length ∧ i = .int .i64 k ∧ Hid (xs.take k = ys.take k) ∧ Hid (Below w.heap.size w wr)) (fun i _ => xs.length - (intOf i).toNat)
  case atStart => exact ⟨0, Nat.zero_le _, rfl, Lib.hid rfl, Lib.hid (Below.refl _ _)⟩
  case round =>
    obtain ⟨k, hk, rfl, HT, HB⟩ := hrel
    by_cases hlt : k < xs.length
    · have hly : k < ys.length := by omega
      obtain ⟨ad, rfl, d0⟩ := Kd.at_int (Kd.C_below HC1.out HB.out) (k : Int) (by omega) (by omega)
      obtain ⟨ad2, rfl, e0⟩ := Kd.at_int (Kd.C_below HC2.out HB.out) (k : Int) (by omega) (by omega)
      have HE := Lib.hid (fun h : xs[k] = ys[k] => take_eq xs ys k hlt hly HT.out h)
      have HN := Lib.hid (fun h : ¬ xs[k] = ys[k] => ne_at xs ys k hlt hly h)
      rw [← (show rd xs (k : Int) = xs[k] by simp [rd, hlt]), ← (show rd ys (k : Int) = ys[k] by simp [rd, hly])] at HE HN
      simp only [Int.toNat_natCast] at d0 e0
      generalize rd xs (k : Int) = p at *
      generalize rd ys (k : Int) = q at *
      have i0 : (0 : Int) ≤ (k : Int) := by omega
      have i1 : (k : Int) < (xs.length : Int) := by omega
      have hcase : (p = q ∧ (p != q) = false) ∨ (¬ p = q ∧ (p != q) = true) := by
        by_cases h : p = q
        · exact .inl ⟨h, by simpa using h⟩
        · exact .inr ⟨h, by simpa using h⟩
      rcases hcase with ⟨hpq, hb⟩ | ⟨hpq, hb⟩
      · skip
        have HE' := Lib.hid (HE.out hpq)
        clear HE HN hpq
        go_wp2
        refine wp_region_below (by kernel_rfl) (by kernel_rfl) ?_
        intro Sx _ F hF hS
        have z1 := fun s => cellk (hF s) d0
        have yd0 := fun s => cellk (hF s) d0
        have ye0 := fun s => cellk (hF s) e0
        repeat (go_big_quiet_step (fail))
        refine wpQuiet_nil ?_
        intro w3 hw3
        obtain ⟨s2, rfl⟩ := hw3
        have HB3 := Lib.hid (bthen HB.out (hF s2))
        clear z1 yd0 ye0 hF hS
        generalize F s2 = w3 at *
        go_wp2
        go_roundw
        case rel => exact ⟨k + 1, by omega, by go_num, HE', HB3⟩
        case measure => simp [intOf]; omega
      · skip
        have HN' := Lib.hid (HN.out hpq)
        clear HE HN hpq
        go_wp2
        refine wp_region_below (by kernel_rfl) (by kernel_rfl) ?_
        intro Sx _ F hF hS
        have z1 := fun s => cellk (hF s) d0
        have yd0 := fun s => cellk (hF s) d0
        have ye0 := fun s => cellk (hF s) e0
        repeat (go_big_quiet_step (fail))
        refine wpQuiet_nil ?_
        intro w3 hw3
        obtain ⟨s2, rfl⟩ := hw3
        have HB3 := Lib.hid (bthen HB.out (hF s2))
        clear z1 yd0 ye0 hF hS
        generalize F s2 = w3 at *
        go_wp2
        go_ret
        exact ⟨⟨false, rfl, by simpa using HN'.out⟩, HB3.out⟩
    · obtain hke : xs.length = k := by omega
      have hT := HT.out
      rw [← hke, List.take_length, List.take_of_length_le (by omega)] at hT
      have HT' := Lib.hid hT
      clear hT HT hke
      go_wp2
      go_ret
      exact ⟨⟨true, rfl, by simpa using HT'.out⟩, HB.out⟩
set_option maxHeartbeats 4000000 in
set_option maxRecDepth 100000 in
theorem eqop_c (A1 A2 : Option Addr) (c1 c2 : Nat) (xs ys : List S41) (hx : xs.length ≤ 1000000) (hy : ys.length ≤ 1000000) (w : World) (hC1 : k41.C w A1 xs.length xs) (hC2 : k41.C w A2 ys.length ys) :
    Calls Tryd.prog 45 #[.slice A1 xs.length c1, .slice A2 ys.length c2] w fun e w' => (∃ r, e = .returned (.bool r) ∧ (r = true ↔ xs = ys)) ∧ Below w.heap.size w w' := by
  have HC1 := Lib.hid hC1
  have HC2 := Lib.hid hC2
  clear hC1 hC2
  by_cases hl : xs.length = ys.length
  case neg =>
    have hn := nlen xs ys hl
    have hl2 : ((xs.length : Int) != (ys.length : Int)) = true := by simpa using fun e : (xs.length : Int) = ys.length => hl (by omega)
    have HN := Lib.hid hn
    clear hn
    go_enter Tryd.func45, Tryd.ntmps45
    go_wp2
    go_ret
    exact ⟨⟨false, rfl, by simpa using HN.out⟩, Below.refl _ _⟩
  have hl2 : (ys.length : Int) = xs.length := by omega
  generalize hly' : ys.length = ly at *
  obtain rfl : ly = xs.length := hl.symm
  go_enter Tryd.func45, Tryd.ntmps45
  go_wp2
  go_loopw [13] (fun i wr => ∃ k : Nat, k ≤ xs.length ∧ i = .int .i64 k ∧ Hid (xs.take k = ys.take k) ∧ Hid (Below w.heap.size w wr)) (fun i _ => xs.length - (intOf i).toNat)
  case atStart => exact ⟨0, Nat.zero_le _, rfl, Lib.hid rfl, Lib.hid (Below.refl _ _)⟩
  case round =>
    obtain ⟨k, hk, rfl, HT, HB⟩ := hrel
    by_cases hlt : k < xs.length
    · have hly : k < ys.length := by omega
      obtain ⟨ad, rfl, d0, d1, d2, d3, d4, d5⟩ := at_T41 (Kd.C_below HC1.out HB.out) (k : Int) (by omega) (by omega)
      obtain ⟨ad2, rfl, e0, e1, e2, e3, e4, e5⟩ := at_T41 (Kd.C_below HC2.out HB.out) (k : Int) (by omega) (by omega)
      have HE := Lib.hid (fun h : xs[k] = ys[k] => take_eq xs ys k hlt hly HT.out h)
      have HN := Lib.hid (fun h : ¬ xs[k] = ys[k] => ne_at xs ys k hlt hly h)
      rw [← (show rd_T41 xs (k : Int) = xs[k] by simp [rd_T41, hlt]), ← (show rd_T41 ys (k : Int) = ys[k] by simp [rd_T41, hly])] at HE HN
      simp only [Int.toNat_natCast] at d0 d1 d2 d3 d4 d5 e0 e1 e2 e3 e4 e5
      generalize rd_T41 xs (k : Int) = p at *
      generalize rd_T41 ys (k : Int) = q at *
      have i0 : (0 : Int) ≤ (k : Int) := by omega
      have i1 : (k : Int) < (xs.length : Int) := by omega
      have hE := fun v => eq_op p q v
      have hG : Tryd.prog.eqGuardType Tryd.prog.depth 41 = false := by kernel_rfl
      have hcase : (p = q ∧ (p.f0 == q.f0 && (p.f1 == q.f1 && (p.f2 == q.f2 && (p.f3 == q.f3 && (p.f4 == q.f4 && (p.f5 == q.f5)))))) = true) ∨ (¬ p = q ∧ (p.f0 == q.f0 && (p.f1 == q.f1 && (p.f2 == q.f2 && (p.f3 == q.f3 && (p.f4 == q.f4 && (p.f5 == q.f5)))))) = false) := by
        by_cases h : (p.f0 == q.f0 && (p.f1 == q.f1 && (p.f2 == q.f2 && (p.f3 == q.f3 && (p.f4 == q.f4 && (p.f5 == q.f5)))))) = true
        · refine .inl ⟨?_, h⟩
          simp only [Bool.and_eq_true, beq_iff_eq] at h
          cases p
          cases q
          simp only [S41.mk.injEq]
          exact h
        · exact .inr ⟨fun e => h (by rw [e]; simp), by simpa using h⟩
      rcases hcase with ⟨hpq, hb⟩ | ⟨hpq, hb⟩
      · simp only [hb] at hE
        have HE' := Lib.hid (HE.out hpq)
        clear HE HN hpq
        go_wp2
        refine wp_region_below (by kernel_rfl) (by kernel_rfl) ?_
        intro Sx _ F hF hS
        have z1 := fun s => cellk (hF s) d0
        have yd0 := fun s => cellk (hF s) d0
        have yd1 := fun s => cellk (hF s) d1
        have yd2 := fun s => cellk (hF s) d2
        have yd3 := fun s => cellk (hF s) d3
        have yd4 := fun s => cellk (hF s) d4
        have yd5 := fun s => cellk (hF s) d5
        have ye0 := fun s => cellk (hF s) e0
        have ye1 := fun s => cellk (hF s) e1
        have ye2 := fun s => cellk (hF s) e2
        have ye3 := fun s => cellk (hF s) e3
        have ye4 := fun s => cellk (hF s) e4
        have ye5 := fun s => cellk (hF s) e5
        repeat (go_big_quiet_step (fail))
        refine wpQuiet_nil ?_
        intro w3 hw3
        obtain ⟨s2, rfl⟩ := hw3
        have HB3 := Lib.hid (bthen HB.out (hF s2))
        clear z1 yd0 yd1 yd2 yd3 yd4 yd5 ye0 ye1 ye2 ye3 ye4 ye5 hF hS
        generalize F s2 = w3 at *
        go_wp2
        go_roundw
        case rel => exact ⟨k + 1, by omega, by go_num, HE', HB3⟩
        case measure => simp [intOf]; omega
      · simp only [hb] at hE
        have HN' := Lib.hid (HN.out hpq)
        clear HE HN hpq
        go_wp2
        refine wp_region_below (by kernel_rfl) (by kernel_rfl) ?_
        intro Sx _ F hF hS
        have z1 := fun s => cellk (hF s) d0
        have yd0 := fun s => cellk (hF s) d0
        have yd1 := fun s => cellk (hF s) d1
        have yd2 := fun s => cellk (hF s) d2
        have yd3 := fun s => cellk (hF s) d3
        have yd4 := fun s => cellk (hF s) d4
        have yd5 := fun s => cellk (hF s) d5
        have ye0 := fun s => cellk (hF s) e0
        have ye1 := fun s => cellk (hF s) e1
        have ye2 := fun s => cellk (hF s) e2
        have ye3 := fun s => cellk (hF s) e3
        have ye4 := fun s => cellk (hF s) e4
        have ye5 := fun s => cellk (hF s) e5
        repeat (go_big_quiet_step (fail))
        refine wpQuiet_nil ?_
        intro w3 hw3
        obtain ⟨s2, rfl⟩ := hw3
        have HB3 := Lib.hid (bthen HB.out (hF s2))
        clear z1 yd0 yd1 yd2 yd3 yd4 yd5 ye0 ye1 ye2 ye3 ye4 ye5 hF hS
        generalize F s2 = w3 at *
        go_wp2
        go_ret
        exact ⟨⟨false, rfl, by simpa using HN'.out⟩, HB3.out⟩
    · obtain hke : xs.length = k := by omega
      have hT := HT.out
      rw [← hke, List.take_length, List.take_of_length_le (by omega)] at hT
      have HT' := Lib.hid hT
      clear hT HT hke
      go_wp2
      go_ret
      exact ⟨⟨true, rfl, by simpa using HT'.out⟩, HB.out⟩
end Go.Proofs.YtlnbghhhifnbdaaDoor

/- Contract of the reference's Same of layer 23: are two blocks the same? Conditions: the lists read as the given ones, and have at most a million entries. -/
namespace Go.Proofs.YtlnbghhhifnbdaaDoor
open Go.RowKit Go.Proofs.YtlnbghhhifnbdaaDoorW.PrintWords Go.Proofs.YtlnbghhhifnbdaaDoor.PIrTexts
set_option linter.unusedVariables false
set_option linter.unusedSimpArgs false

theorem exit_eq (x y : S59) : x = y ↔ (x.f0 = y.f0 ∧ x.f1 = y.f1 ∧ x.f2 = y.f2 ∧ x.f3 = y.f3 ∧ x.f4 = y.f4) := by
  cases x
  cases y
  simp only [S59.mk.injEq]
theorem inb {a b : Int} (h : ¬ a = b) : (a != b) = true := by simpa using h
theorem iyb {a b : Int} (h : a = b) : (a != b) = false := by simpa using h
/-- A call has answered a Bool that tells of something. -/
def SameR (e : Ending) (G : Prop) : Prop := ∃ r, e = .returned (.bool r) ∧ (r = true ↔ G)
theorem SameR.mk {G : Prop} (r : Bool) (h : r = true ↔ G) : SameR (.returned (.bool r)) G := ⟨r, rfl, h⟩
theorem SameR.no {G : Prop} (h : ¬ G) : SameR (.returned (.bool false)) G := ⟨false, rfl, by simpa using h⟩
theorem SameR.yes {G : Prop} (h : G) : SameR (.returned (.bool true)) G := ⟨true, rfl, by simpa using h⟩
theorem take_all {α : Type} (xs ys : List α) (k : Nat) (hx : xs.length = k) (hy : ys.length = k) (h : xs.take k = ys.take k) : xs = ys := by
  rwa [List.take_of_length_le (by omega), List.take_of_length_le (by omega)] at h
set_option maxHeartbeats 8000000 in
set_option maxRecDepth 100000 in
theorem rsame_eq (A0 A1 A2 B0 B1 B2 : Option Addr) (c0 c1 c2 s0 s1 s2 n0 n1 n2 : Nat) (la : Int) (pa pb : List Int) (oa ob : List S38) (ea eb : List S59)
    (h0 : n0 ≤ 1000000) (h1 : n1 ≤ 1000000) (h2 : n2 ≤ 1000000) (hpa : pa.length = n0) (hpb : pb.length = n0) (hoa : oa.length = n1) (hob : ob.length = n1) (hea : ea.length = n2) (heb : eb.length = n2) (hma : ∀ x ∈ ea, x.f4.length ≤ 1000000) (hmb : ∀ x ∈ eb, x.f4.length ≤ 1000000) (w : World)
    (hA0 : (Kd.int .u32).C w A0 n0 pa) (hA1 : k38.C w A1 n1 oa) (hA2 : k59.C w A2 n2 ea)
    (hB0 : (Kd.int .u32).C w B0 n0 pb) (hB1 : k38.C w B1 n1 ob) (hB2 : k59.C w B2 n2 eb) :
    Calls Tryd.prog 19 #[.agg #[.slice A0 n0 c0, .slice A1 n1 c1, .slice A2 n2 c2, .int .i64 la], .agg #[.slice B0 n0 s0, .slice B1 n1 s1, .slice B2 n2 s2, .int .i64 la]] w fun e w' =>
      SameR e (pa = pb ∧ oa = ob ∧ ea = eb) ∧ Below w.heap.size w w' := by
  obtain ⟨G, hG⟩ : ∃ G : Prop, G = (pa = pb ∧ oa = ob ∧ ea = eb) := ⟨_, rfl⟩
  rw [← hG]
  have HG := Lib.hid hG
  clear hG
  have HA0 := Lib.hid hA0
  have HA1 := Lib.hid hA1
  have HA2 := Lib.hid hA2
  have HB0 := Lib.hid hB0
  have HB1 := Lib.hid hB1
  have HB2 := Lib.hid hB2
  have HMA := Lib.hid hma
  have HMB := Lib.hid hmb
  have LPA := Lib.hid hpa
  have LPB := Lib.hid hpb
  have LOA := Lib.hid hoa
  have LOB := Lib.hid hob
  have LEA := Lib.hid hea
  have LEB := Lib.hid heb
  clear hA0 hA1 hA2 hB0 hB1 hB2 hma hmb hpa hpb hoa hob hea heb
  go_enter Tryd.func19, Tryd.ntmps19
  go_wp2
  have HW0 := Lib.hid (bal (bal (Below.refl w.heap.size w) (.cells #[.slice A0 n0 c0, .slice A1 n1 c1, .slice A2 n2 c2, .int .i64 la] 26)) (.cells #[.slice B0 n0 s0, .slice B1 n1 s1, .slice B2 n2 s2, .int .i64 la] 26))
  have hb0 : ((w.alloc (.cells #[.slice A0 n0 c0, .slice A1 n1 c1, .slice A2 n2 c2, .int .i64 la] 26)).alloc (.cells #[.slice B0 n0 s0, .slice B1 n1 s1, .slice B2 n2 s2, .int .i64 la] 26)).heap[w.heap.size]? = some (.cells #[.slice A0 n0 c0, .slice A1 n1 c1, .slice A2 n2 c2, .int .i64 la] 26 (0, 0)) := blk_alloc (blk_new _ _) _
  have hb1 : ((w.alloc (.cells #[.slice A0 n0 c0, .slice A1 n1 c1, .slice A2 n2 c2, .int .i64 la] 26)).alloc (.cells #[.slice B0 n0 s0, .slice B1 n1 s1, .slice B2 n2 s2, .int .i64 la] 26)).heap[w.heap.size + 1]? = some (.cells #[.slice B0 n0 s0, .slice B1 n1 s1, .slice B2 n2 s2, .int .i64 la] 26 (0, 0)) := by simpa using blk_new (w.alloc _) _
  generalize (w.alloc (.cells #[.slice A0 n0 c0, .slice A1 n1 c1, .slice A2 n2 c2, .int .i64 la] 26)).alloc (.cells #[.slice B0 n0 s0, .slice B1 n1 s1, .slice B2 n2 s2, .int .i64 la] 26) = W0 at *
  have dd0 : W0.cell? ⟨w.heap.size, 0, none⟩ = some (.slice A0 n0 c0) := by rw [blk_cell hb0]; rfl
  have dd1 : W0.cell? ⟨w.heap.size, 1, none⟩ = some (.slice A1 n1 c1) := by rw [blk_cell hb0]; rfl
  have dd2 : W0.cell? ⟨w.heap.size, 2, none⟩ = some (.slice A2 n2 c2) := by rw [blk_cell hb0]; rfl
  have g0 : W0.cell? ⟨w.heap.size + 1, 0, none⟩ = some (.slice B0 n0 s0) := by rw [blk_cell hb1]; rfl
  have g1 : W0.cell? ⟨w.heap.size + 1, 1, none⟩ = some (.slice B1 n1 s1) := by rw [blk_cell hb1]; rfl
  have g2 : W0.cell? ⟨w.heap.size + 1, 2, none⟩ = some (.slice B2 n2 s2) := by rw [blk_cell hb1]; rfl
  have D0 := Lib.hid dd0
  have D1 := Lib.hid dd1
  have D2 := Lib.hid dd2
  have G0 := Lib.hid g0
  have G1 := Lib.hid g1
  have G2 := Lib.hid g2
  clear hb0 hb1 dd1 dd2 g0 g1 g2
  go_loopw [5] (fun i wr => ∃ k : Nat, k ≤ n0 ∧ i = .int .i64 k ∧ Hid (pa.take k = pb.take k) ∧ Hid (Below W0.heap.size W0 wr)) (fun i _ => n0 - (intOf i).toNat)
  case atStart => exact ⟨0, Nat.zero_le _, rfl, Lib.hid rfl, Lib.hid (Below.refl _ _)⟩
  case round =>
    obtain ⟨k, hk, rfl, HT, HB⟩ := hrel
    have x := cellk HB.out D0.out
    have y := cellk HB.out G0.out
    by_cases hlt : k < n0
    · have hlx : k < pa.length := by have := LPA.out; omega
      have hly : k < pb.length := by have := LPB.out; omega
      obtain ⟨ad, rfl, d0⟩ := Kd.at_int (Kd.C_below (Kd.C_below HA0.out HW0.out) HB.out) (k : Int) (by omega) (by omega)
      obtain ⟨ad2, rfl, e0⟩ := Kd.at_int (Kd.C_below (Kd.C_below HB0.out HW0.out) HB.out) (k : Int) (by omega) (by omega)
      have HE := Lib.hid (fun h : pa[k] = pb[k] => take_eq pa pb k hlx hly HT.out h)
      have HN := Lib.hid (fun h : ¬ pa[k] = pb[k] => ne_at pa pb k hlx hly h)
      rw [← (show rd pa (k : Int) = pa[k] by simp [rd, hlx]), ← (show rd pb (k : Int) = pb[k] by simp [rd, hly])] at HE HN
      simp only [Int.toNat_natCast] at d0 e0
      generalize rd pa (k : Int) = p at *
      generalize rd pb (k : Int) = q at *
      have i0 : (0 : Int) ≤ (k : Int) := by omega
      have i1 : (k : Int) < (n0 : Int) := by omega
      have hcase : (p = q ∧ (p != q) = false) ∨ (¬ p = q ∧ (p != q) = true) := by
        by_cases h : p = q
        · exact .inl ⟨h, by simpa using h⟩
        · exact .inr ⟨h, by simpa using h⟩
      rcases hcase with ⟨hpq, hb⟩ | ⟨hpq, hb⟩
      · skip
        have HE' := Lib.hid (HE.out hpq)
        clear HE HN hpq hlx hly
        go_wp2
        refine wp_region_below (by kernel_rfl) (by kernel_rfl) ?_
        intro Sx _ F hF hS
        have yd0 := fun s => cellk (hF s) d0
        have ye0 := fun s => cellk (hF s) e0
        have yx := fun s => cellk (hF s) x
        have yy := fun s => cellk (hF s) y
        repeat (go_big_quiet_step (fail))
        refine wpQuiet_nil ?_
        intro w3 hw3
        obtain ⟨sx, rfl⟩ := hw3
        have HB3 := Lib.hid (bthen HB.out (hF sx))
        clear yd0 ye0 yx yy hF hS
        generalize F sx = w3 at *
        go_wp2
        go_roundw
        case rel => exact ⟨k + 1, by omega, by go_num, HE', HB3⟩
        case measure => simp [intOf]; omega
      · skip
        have HN' := Lib.hid (HN.out hpq)
        clear HE HN hpq hlx hly
        go_wp2
        refine wp_region_below (by kernel_rfl) (by kernel_rfl) ?_
        intro Sx _ F hF hS
        have yd0 := fun s => cellk (hF s) d0
        have ye0 := fun s => cellk (hF s) e0
        have yx := fun s => cellk (hF s) x
        have yy := fun s => cellk (hF s) y
        repeat (go_big_quiet_step (fail))
        refine wpQuiet_nil ?_
        intro w3 hw3
        obtain ⟨sx, rfl⟩ := hw3
        have HB3 := Lib.hid (bthen HB.out (hF sx))
        clear yd0 ye0 yx yy hF hS
        generalize F sx = w3 at *
        go_wp2
        go_ret
        exact ⟨SameR.no (by rw [HG.out]; exact fun h => HN'.out h.1), bthen HW0.out HB3.out⟩
    · have hke : n0 = k := by omega
      have HQ0 := Lib.hid (take_all pa pb k (by rw [LPA.out]; exact hke) (by rw [LPB.out]; exact hke) HT.out)
      clear HT hke
      have HBP := HB
      go_wp2
      clear x y HB
      go_loopw [6] (fun i wr => ∃ k : Nat, k ≤ n1 ∧ i = .int .i64 k ∧ Hid (oa.take k = ob.take k) ∧ Hid (Below W0.heap.size W0 wr)) (fun i _ => n1 - (intOf i).toNat)
      case atStart => exact ⟨0, Nat.zero_le _, rfl, Lib.hid rfl, HBP⟩
      case round =>
        obtain ⟨k, hk, rfl, HT, HB⟩ := hrel
        have x := cellk HB.out D1.out
        have y := cellk HB.out G1.out
        by_cases hlt : k < n1
        · have hlx : k < oa.length := by have := LOA.out; omega
          have hly : k < ob.length := by have := LOB.out; omega
          obtain ⟨ad, rfl, d0, d1, d2, d3, d4, d5⟩ := at_T38 (Kd.C_below (Kd.C_below HA1.out HW0.out) HB.out) (k : Int) (by omega) (by omega)
          obtain ⟨ad2, rfl, e0, e1, e2, e3, e4, e5⟩ := at_T38 (Kd.C_below (Kd.C_below HB1.out HW0.out) HB.out) (k : Int) (by omega) (by omega)
          have HE := Lib.hid (fun h : oa[k] = ob[k] => take_eq oa ob k hlx hly HT.out h)
          have HN := Lib.hid (fun h : ¬ oa[k] = ob[k] => ne_at oa ob k hlx hly h)
          rw [← (show rd_T38 oa (k : Int) = oa[k] by simp [rd_T38, hlx]), ← (show rd_T38 ob (k : Int) = ob[k] by simp [rd_T38, hly])] at HE HN
          simp only [Int.toNat_natCast] at d0 d1 d2 d3 d4 d5 e0 e1 e2 e3 e4 e5
          generalize rd_T38 oa (k : Int) = p at *
          generalize rd_T38 ob (k : Int) = q at *
          have i0 : (0 : Int) ≤ (k : Int) := by omega
          have i1 : (k : Int) < (n1 : Int) := by omega
          have hE := fun v => eq_rop p q v
          have hG : Tryd.prog.eqGuardType Tryd.prog.depth 38 = false := by kernel_rfl
          have hcase : (p = q ∧ (p.f0 == q.f0 && (p.f1 == q.f1 && (p.f2 == q.f2 && (p.f3 == q.f3 && (p.f4 == q.f4 && (p.f5 == q.f5)))))) = true) ∨ (¬ p = q ∧ (p.f0 == q.f0 && (p.f1 == q.f1 && (p.f2 == q.f2 && (p.f3 == q.f3 && (p.f4 == q.f4 && (p.f5 == q.f5)))))) = false) := by
            by_cases h : (p.f0 == q.f0 && (p.f1 == q.f1 && (p.f2 == q.f2 && (p.f3 == q.f3 && (p.f4 == q.f4 && (p.f5 == q.f5)))))) = true
            · refine .inl ⟨?_, h⟩
              simp only [Bool.and_eq_true, beq_iff_eq] at h
              cases p
              cases q
              simp only [S38.mk.injEq]
              exact h
            · exact .inr ⟨fun e => h (by rw [e]; simp), by simpa using h⟩
          rcases hcase with ⟨hpq, hb⟩ | ⟨hpq, hb⟩
          · simp only [hb] at hE
            have HE' := Lib.hid (HE.out hpq)
            clear HE HN hpq hlx hly
            go_wp2
            refine wp_region_below (by kernel_rfl) (by kernel_rfl) ?_
            intro Sx _ F hF hS
            have yd0 := fun s => cellk (hF s) d0
            have yd1 := fun s => cellk (hF s) d1
            have yd2 := fun s => cellk (hF s) d2
            have yd3 := fun s => cellk (hF s) d3
            have yd4 := fun s => cellk (hF s) d4
            have yd5 := fun s => cellk (hF s) d5
            have ye0 := fun s => cellk (hF s) e0
            have ye1 := fun s => cellk (hF s) e1
            have ye2 := fun s => cellk (hF s) e2
            have ye3 := fun s => cellk (hF s) e3
            have ye4 := fun s => cellk (hF s) e4
            have ye5 := fun s => cellk (hF s) e5
            have yx := fun s => cellk (hF s) x
            have yy := fun s => cellk (hF s) y
            repeat (go_big_quiet_step (fail))
            refine wpQuiet_nil ?_
            intro w3 hw3
            obtain ⟨sx, rfl⟩ := hw3
            have HB3 := Lib.hid (bthen HB.out (hF sx))
            clear yd0 yd1 yd2 yd3 yd4 yd5 ye0 ye1 ye2 ye3 ye4 ye5 yx yy hF hS
            generalize F sx = w3 at *
            go_wp2
            go_roundw
            case rel => exact ⟨k + 1, by omega, by go_num, HE', HB3⟩
            case measure => simp [intOf]; omega
          · simp only [hb] at hE
            have HN' := Lib.hid (HN.out hpq)
            clear HE HN hpq hlx hly
            go_wp2
            refine wp_region_below (by kernel_rfl) (by kernel_rfl) ?_
            intro Sx _ F hF hS
            have yd0 := fun s => cellk (hF s) d0
            have yd1 := fun s => cellk (hF s) d1
            have yd2 := fun s => cellk (hF s) d2
            have yd3 := fun s => cellk (hF s) d3
            have yd4 := fun s => cellk (hF s) d4
            have yd5 := fun s => cellk (hF s) d5
            have ye0 := fun s => cellk (hF s) e0
            have ye1 := fun s => cellk (hF s) e1
            have ye2 := fun s => cellk (hF s) e2
            have ye3 := fun s => cellk (hF s) e3
            have ye4 := fun s => cellk (hF s) e4
            have ye5 := fun s => cellk (hF s) e5
            have yx := fun s => cellk (hF s) x
            have yy := fun s => cellk (hF s) y
            repeat (go_big_quiet_step (fail))
            refine wpQuiet_nil ?_
            intro w3 hw3
            obtain ⟨sx, rfl⟩ := hw3
            have HB3 := Lib.hid (bthen HB.out (hF sx))
            clear yd0 yd1 yd2 yd3 yd4 yd5 ye0 ye1 ye2 ye3 ye4 ye5 yx yy hF hS
            generalize F sx = w3 at *
            go_wp2
            go_ret
            exact ⟨SameR.no (by rw [HG.out]; exact fun h => HN'.out h.2.1), bthen HW0.out HB3.out⟩
        · have hke : n1 = k := by omega
          have HQ1 := Lib.hid (take_all oa ob k (by rw [LOA.out]; exact hke) (by rw [LOB.out]; exact hke) HT.out)
          clear HT hke
          have HBP := HB
          have d2' := cellk HBP.out D2.out
          go_wp2
          clear x y HB
          go_loopw [7] (fun i wr => ∃ k : Nat, k ≤ n2 ∧ i = .int .i64 k ∧ Hid (ea.take k = eb.take k) ∧ Hid (Below W0.heap.size W0 wr)) (fun i _ => n2 - (intOf i).toNat)
          case atStart => exact ⟨0, Nat.zero_le _, rfl, Lib.hid rfl, HBP⟩
          case round =>
            clear HBP d2' hlt hk
            obtain ⟨k, hk, rfl, HT, HB⟩ := hrel
            have x := cellk HB.out D2.out
            have y := cellk HB.out G2.out
            by_cases hlt : k < n2
            · have hlx : k < ea.length := by have := LEA.out; omega
              have hly : k < eb.length := by have := LEB.out; omega
              obtain ⟨ad, M1, m1, rfl, d0, d1, d2, d3, d4, l1, k1⟩ := at_T59 (Kd.C_below (Kd.C_below HA2.out HW0.out) HB.out) (k : Int) (by omega) (by omega)
              obtain ⟨ad2, M2, m2, rfl, e0, e1, e2, e3, e4, l2, k2⟩ := at_T59 (Kd.C_below (Kd.C_below HB2.out HW0.out) HB.out) (k : Int) (by omega) (by omega)
              have HE := Lib.hid (fun h : ea[k] = eb[k] => take_eq ea eb k hlx hly HT.out h)
              have HN := Lib.hid (fun h : ¬ ea[k] = eb[k] => ne_at ea eb k hlx hly h)
              have hm1 := HMA.out _ (List.getElem_mem hlx)
              have hm2 := HMB.out _ (List.getElem_mem hly)
              rw [← (show rd_T59 ea (k : Int) = ea[k] by simp [rd_T59, hlx]), ← (show rd_T59 eb (k : Int) = eb[k] by simp [rd_T59, hly])] at HE HN
              rw [← (show rd_T59 ea (k : Int) = ea[k] by simp [rd_T59, hlx])] at hm1
              rw [← (show rd_T59 eb (k : Int) = eb[k] by simp [rd_T59, hly])] at hm2
              simp only [Int.toNat_natCast] at d0 d1 d2 d3 d4 e0 e1 e2 e3 e4
              generalize rd_T59 ea (k : Int) = p at *
              generalize rd_T59 eb (k : Int) = q at *
              have HSM := Lib.hid (fun v (hb : Below wr.heap.size wr v) => samemaps_c M1 M2 m1 m2 p.f4 q.f4 hm1 hm2 v (Kd.C_below k1 hb) (Kd.C_below k2 hb))
              have HK := Lib.hid (exit_eq p q)
              have i0 : (0 : Int) ≤ (k : Int) := by omega
              have i1 : (k : Int) < (n2 : Int) := by omega
              have ha2 : (ad2.add (k * 5)).block < wr.heap.size := World.block_lt_of_cell? wr _ e0
              have hn2 : ¬ (ad2.add (k * 5)).block = wr.heap.size := by omega
              have ww := World.block_lt_of_cell? wr _ y
              have wn : ¬ w.heap.size + 1 = wr.heap.size := by simp at ww; omega
              clear k1 k2 hlx hly
              by_cases q0 : p.f0 = q.f0
              case neg =>
                have HN' := Lib.hid (HN.out (fun h => q0 ((exit_eq p q).1 h).1))
                have t0 := inb q0
                clear HE HN HSM HK
                go_wp2
                go_ret
                exact ⟨SameR.no (by rw [HG.out]; exact fun h => HN'.out h.2.2), bthen HW0.out (bal (bal HB.out _) _)⟩
              have t0 := iyb q0
              by_cases q1 : p.f1 = q.f1
              case neg =>
                have HN' := Lib.hid (HN.out (fun h => q1 ((exit_eq p q).1 h).2.1))
                have t1 := inb q1
                clear HE HN HSM HK
                go_wp2
                go_ret
                exact ⟨SameR.no (by rw [HG.out]; exact fun h => HN'.out h.2.2), bthen HW0.out (bal (bal HB.out _) _)⟩
              have t1 := iyb q1
              by_cases q2 : p.f2 = q.f2
              case neg =>
                have HN' := Lib.hid (HN.out (fun h => q2 ((exit_eq p q).1 h).2.2.1))
                have t2 := inb q2
                clear HE HN HSM HK
                go_wp2
                go_ret
                exact ⟨SameR.no (by rw [HG.out]; exact fun h => HN'.out h.2.2), bthen HW0.out (bal (bal HB.out _) _)⟩
              have t2 := iyb q2
              by_cases q3 : p.f3 = q.f3
              case neg =>
                have HN' := Lib.hid (HN.out (fun h => q3 ((exit_eq p q).1 h).2.2.2.1))
                have t3 := inb q3
                clear HE HN HSM HK
                go_wp2
                go_ret
                exact ⟨SameR.no (by rw [HG.out]; exact fun h => HN'.out h.2.2), bthen HW0.out (bal (bal HB.out _) _)⟩
              have t3 := iyb q3
              have Q0 := Lib.hid (And.intro q0 (And.intro q1 (And.intro q2 q3)))
              clear q0 q1 q2 q3
              go_wp2_with fail
              refine (HSM.out _ (bal (bal (Below.refl _ _) _) _)).mono ?_
              rintro e w3 ⟨⟨r, rfl, hr⟩, hb3⟩
              have HB3 := Lib.hid (bthen (bal (bal HB.out _) _) hb3)
              have HR := Lib.hid hr
              clear hb3 hr
              cases r
              · have HN' := Lib.hid (HN.out (fun h => by have := HR.out.2 ((HK.out.1 h).2.2.2.2); cases this))
                clear HE HN HSM HK
                go_wp2
                go_ret
                exact ⟨SameR.no (by rw [HG.out]; exact fun h => HN'.out h.2.2), bthen HW0.out HB3.out⟩
              · have HE' := Lib.hid (HE.out (HK.out.2 ⟨Q0.out.1, Q0.out.2.1, Q0.out.2.2.1, Q0.out.2.2.2, HR.out.1 rfl⟩))
                clear HE HN HSM HK
                go_wp2
                go_roundw
                case rel => exact ⟨k + 1, by omega, by go_num, HE', HB3⟩
                case measure => simp [intOf]; omega
            · have hke : n2 = k := by omega
              have HQ2 := Lib.hid (take_all ea eb k (by rw [LEA.out]; exact hke) (by rw [LEB.out]; exact hke) HT.out)
              clear HT hke
              go_wp2
              go_ret
              exact ⟨SameR.yes (by rw [HG.out]; exact ⟨HQ0.out, HQ1.out, HQ2.out⟩), bthen HW0.out HB.out⟩
end Go.Proofs.YtlnbghhhifnbdaaDoor

/- Contracts of the reference's Same whole, and of ir.Same, its closure and the library's EqualFunc. Conditions: the lists read as the given ones, and have at most a million entries. -/
namespace Go.Proofs.YtlnbghhhifnbdaaDoor
open Go.RowKit Go.Proofs.YtlnbghhhifnbdaaDoorW.PrintWords Go.Proofs.YtlnbghhhifnbdaaDoor.PIrTexts
set_option linter.unusedVariables false
set_option linter.unusedSimpArgs false

set_option maxHeartbeats 8000000 in
set_option maxRecDepth 100000 in
theorem rsame_c (A0 A1 A2 B0 B1 B2 : Option Addr) (c0 c1 c2 s0 s1 s2 : Nat) (la lb : Int) (pa pb : List Int) (oa ob : List S38) (ea eb : List S59)
    (hp : pa.length ≤ 1000000) (ho : oa.length ≤ 1000000) (he : ea.length ≤ 1000000) (hma : ∀ x ∈ ea, x.f4.length ≤ 1000000) (hmb : ∀ x ∈ eb, x.f4.length ≤ 1000000) (w : World)
    (hA0 : (Kd.int .u32).C w A0 pa.length pa) (hA1 : k38.C w A1 oa.length oa) (hA2 : k59.C w A2 ea.length ea)
    (hB0 : (Kd.int .u32).C w B0 pb.length pb) (hB1 : k38.C w B1 ob.length ob) (hB2 : k59.C w B2 eb.length eb) :
    Calls Tryd.prog 19 #[.agg #[.slice A0 pa.length c0, .slice A1 oa.length c1, .slice A2 ea.length c2, .int .i64 la], .agg #[.slice B0 pb.length s0, .slice B1 ob.length s1, .slice B2 eb.length s2, .int .i64 lb]] w fun e w' =>
      SameR e (la = lb ∧ pa = pb ∧ oa = ob ∧ ea = eb) ∧ Below w.heap.size w w' := by
  by_cases heq : la = lb ∧ pa.length = pb.length ∧ oa.length = ob.length ∧ ea.length = eb.length
  · obtain ⟨rfl, q1, q2, q3⟩ := heq
    have := rsame_eq A0 A1 A2 B0 B1 B2 c0 c1 c2 s0 s1 s2 pa.length oa.length ea.length la pa pb oa ob ea eb hp ho he rfl q1.symm rfl q2.symm rfl q3.symm hma hmb w hA0 hA1 hA2 (q1 ▸ hB0) (q2 ▸ hB1) (q3 ▸ hB2)
    rw [q1, q2, q3] at this
    rw [q1, q2, q3]
    refine this.mono ?_
    rintro e w' ⟨hr, hb⟩
    refine ⟨?_, hb⟩
    simpa using hr
  obtain ⟨G, hG⟩ : ∃ G : Prop, G = (la = lb ∧ pa = pb ∧ oa = ob ∧ ea = eb) := ⟨_, rfl⟩
  rw [← hG]
  have HN := Lib.hid (show ¬ G by rw [hG]; rintro ⟨h0, h1, h2, h3⟩; exact heq ⟨h0, by rw [h1], by rw [h2], by rw [h3]⟩)
  have HQ := Lib.hid heq
  clear hG heq hA0 hA1 hA2 hB0 hB1 hB2 hma hmb
  generalize pa.length = x0 at *
  generalize pb.length = y0 at *
  generalize oa.length = x1 at *
  generalize ob.length = y1 at *
  generalize ea.length = x2 at *
  generalize eb.length = y2 at *
  have HC : (la != lb) = true ∨ ((la != lb) = false ∧ (((x0 : Int) != (y0 : Int)) = true ∨ (((x0 : Int) != (y0 : Int)) = false ∧ (((x1 : Int) != (y1 : Int)) = true ∨ (((x1 : Int) != (y1 : Int)) = false ∧ ((x2 : Int) != (y2 : Int)) = true))))) := by
    by_cases a : la = lb
    · refine .inr ⟨iyb a, ?_⟩
      by_cases b : x0 = y0
      · refine .inr ⟨iyb (by omega), ?_⟩
        by_cases c : x1 = y1
        · exact .inr ⟨iyb (by omega), inb (fun h => HQ.out ⟨a, b, c, by omega⟩)⟩
        · exact .inl (inb (by omega))
      · exact .inl (inb (by omega))
    · exact .inl (inb a)
  clear HQ
  rcases HC with t0 | ⟨t0, t1 | ⟨t1, t2 | ⟨t2, t3⟩⟩⟩
  all_goals
    go_enter Tryd.func19, Tryd.ntmps19
    go_wp2
    go_ret
    exact ⟨SameR.no HN.out, bal (bal (Below.refl _ _) _) _⟩
/-- What holds, as a Bool. -/
noncomputable def decG (G : Prop) : Bool := @decide G (Classical.propDecidable G)
theorem decG_yes {G : Prop} (h : G) : decG G = true := @decide_eq_true G (Classical.propDecidable G) h
theorem decG_no {G : Prop} (h : ¬ G) : decG G = false := @decide_eq_false G (Classical.propDecidable G) h
theorem SameR.dec {e : Ending} {G : Prop} (h : SameR e G) : e = .returned (.bool (decG G)) := by
  obtain ⟨r, rfl, hr⟩ := h
  by_cases g : G
  · rw [decG_yes g, hr.2 g]
  · rw [decG_no g]
    cases r
    · rfl
    · exact absurd (hr.1 rfl) g
theorem exitO_eq (x y : S54) : x = y ↔ (x.f0 = y.f0 ∧ x.f1 = y.f1 ∧ x.f2 = y.f2 ∧ x.f3 = y.f3 ∧ x.f4 = y.f4) := by
  cases x
  cases y
  simp only [S54.mk.injEq]
theorem bnb {a b : Int} (h : ¬ a = b) : (a == b) = false := by simpa using h
theorem byb {a b : Int} (h : a = b) : (a == b) = true := by simpa using h
set_option maxHeartbeats 8000000 in
set_option maxRecDepth 100000 in
theorem samefn_c (p q : S54) (A B : Option Addr) (ca cb : Nat) (hp : p.f4.length ≤ 1000000) (hq : q.f4.length ≤ 1000000) (w : World) (hA : k56.C w A p.f4.length p.f4) (hB : k56.C w B q.f4.length q.f4) :
    Calls Tryd.prog 42 #[.agg #[.int .i64 p.f0, .int .u32 p.f1, .int .i64 p.f2, .int .i64 p.f3, .slice A p.f4.length ca], .agg #[.int .i64 q.f0, .int .u32 q.f1, .int .i64 q.f2, .int .i64 q.f3, .slice B q.f4.length cb]] w fun e w' => SameR e (p = q) ∧ Below w.heap.size w w' := by
  obtain ⟨G, hG⟩ : ∃ G : Prop, G = (p = q) := ⟨_, rfl⟩
  rw [← hG]
  have HG := Lib.hid (show G ↔ (p.f0 = q.f0 ∧ p.f1 = q.f1 ∧ p.f2 = q.f2 ∧ p.f3 = q.f3 ∧ p.f4 = q.f4) by rw [hG]; exact exitO_eq p q)
  have HV := Lib.hid (fun v (hb : Below w.heap.size w v) => eqval_c A B ca cb p.f4 q.f4 hp hq v (Kd.C_below hA hb) (Kd.C_below hB hb))
  clear hG hA hB
  by_cases q0 : p.f0 = q.f0
  case neg =>
    have HN := Lib.hid (show ¬ G by rw [HG.out]; exact fun h => q0 h.1)
    have t0 := bnb q0
    clear HG HV
    go_enter Tryd.func42, Tryd.ntmps42
    go_wp2
    go_ret
    exact ⟨SameR.no HN.out, bal (bal (Below.refl _ _) _) _⟩
  have t0 := byb q0
  by_cases q1 : p.f1 = q.f1
  case neg =>
    have HN := Lib.hid (show ¬ G by rw [HG.out]; exact fun h => q1 h.2.1)
    have t1 := bnb q1
    clear HG HV
    go_enter Tryd.func42, Tryd.ntmps42
    go_wp2
    go_ret
    exact ⟨SameR.no HN.out, bal (bal (Below.refl _ _) _) _⟩
  have t1 := byb q1
  by_cases q2 : p.f2 = q.f2
  case neg =>
    have HN := Lib.hid (show ¬ G by rw [HG.out]; exact fun h => q2 h.2.2.1)
    have t2 := bnb q2
    clear HG HV
    go_enter Tryd.func42, Tryd.ntmps42
    go_wp2
    go_ret
    exact ⟨SameR.no HN.out, bal (bal (Below.refl _ _) _) _⟩
  have t2 := byb q2
  by_cases q3 : p.f3 = q.f3
  case neg =>
    have HN := Lib.hid (show ¬ G by rw [HG.out]; exact fun h => q3 h.2.2.2.1)
    have t3 := bnb q3
    clear HG HV
    go_enter Tryd.func42, Tryd.ntmps42
    go_wp2
    go_ret
    exact ⟨SameR.no HN.out, bal (bal (Below.refl _ _) _) _⟩
  have t3 := byb q3
  have Q0 := Lib.hid (And.intro q0 (And.intro q1 (And.intro q2 q3)))
  clear q0 q1 q2 q3
  go_enter Tryd.func42, Tryd.ntmps42
  go_wp2_with fail
  refine (HV.out _ (bal (bal (Below.refl _ _) _) _)).mono ?_
  rintro e w3 ⟨⟨r, rfl, hr⟩, hb3⟩
  have HB3 := Lib.hid (bthen (bal (bal (Below.refl _ _) _) _) hb3)
  have HR := Lib.hid (show r = true ↔ G by rw [HG.out, hr]; exact ⟨fun h => ⟨Q0.out.1, Q0.out.2.1, Q0.out.2.2.1, Q0.out.2.2.2, h⟩, fun h => h.2.2.2.2⟩)
  clear hb3 hr HG HV
  go_wp2
  go_ret
  exact ⟨SameR.mk r HR.out, HB3.out⟩
set_option maxHeartbeats 8000000 in
set_option maxRecDepth 100000 in
theorem eqfunc_c (A1 A2 : Option Addr) (c1 c2 : Nat) (xs ys : List S54) (hx : xs.length ≤ 1000000) (hy : ys.length ≤ 1000000) (hmx : ∀ x ∈ xs, x.f4.length ≤ 1000000) (hmy : ∀ x ∈ ys, x.f4.length ≤ 1000000) (w : World) (hC1 : k54.C w A1 xs.length xs) (hC2 : k54.C w A2 ys.length ys) :
    Calls Tryd.prog 46 #[.slice A1 xs.length c1, .slice A2 ys.length c2, .func (.func 42) #[] #[]] w fun e w' => SameR e (xs = ys) ∧ Below w.heap.size w w' := by
  obtain ⟨G, hG⟩ : ∃ G : Prop, G = (xs = ys) := ⟨_, rfl⟩
  rw [← hG]
  have HG := Lib.hid hG
  have HC1 := Lib.hid hC1
  have HC2 := Lib.hid hC2
  have HMX := Lib.hid hmx
  have HMY := Lib.hid hmy
  clear hC1 hC2 hmx hmy hG
  by_cases hl : xs.length = ys.length
  case neg =>
    have HN := Lib.hid (show ¬ G by rw [HG.out]; exact nlen xs ys hl)
    have hl2 : ((xs.length : Int) != (ys.length : Int)) = true := by simpa using fun e : (xs.length : Int) = ys.length => hl (by omega)
    clear HG HC1 HC2 HMX HMY
    go_enter Tryd.func46, Tryd.ntmps46
    go_wp2
    go_ret
    exact ⟨SameR.no HN.out, Below.refl _ _⟩
  generalize hly' : ys.length = ly at *
  obtain rfl : ly = xs.length := hl.symm
  go_enter Tryd.func46, Tryd.ntmps46
  go_wp2
  go_loopw [17] (fun i wr => ∃ k : Nat, k ≤ xs.length ∧ i = .int .i64 k ∧ Hid (xs.take k = ys.take k) ∧ Hid (Below w.heap.size w wr)) (fun i _ => xs.length - (intOf i).toNat)
  case atStart => exact ⟨0, Nat.zero_le _, rfl, Lib.hid rfl, Lib.hid (Below.refl _ _)⟩
  case round =>
    obtain ⟨k, hk, rfl, HT, HB⟩ := hrel
    by_cases hlt : k < xs.length
    · have hly : k < ys.length := by omega
      obtain ⟨ad, M1, m1, rfl, d0, d1, d2, d3, d4, l1, k1⟩ := at_T54 (Kd.C_below HC1.out HB.out) (k : Int) (by omega) (by omega)
      obtain ⟨ad2, M2, m2, rfl, e0, e1, e2, e3, e4, l2, k2⟩ := at_T54 (Kd.C_below HC2.out HB.out) (k : Int) (by omega) (by omega)
      have HE := Lib.hid (fun h : xs[k] = ys[k] => take_eq xs ys k hlt hly HT.out h)
      have HN := Lib.hid (fun h : ¬ xs[k] = ys[k] => ne_at xs ys k hlt hly h)
      have hm1 := HMX.out _ (List.getElem_mem hlt)
      have hm2 := HMY.out _ (List.getElem_mem hly)
      rw [← (show rd_T54 xs (k : Int) = xs[k] by simp [rd_T54, hlt]), ← (show rd_T54 ys (k : Int) = ys[k] by simp [rd_T54, hly])] at HE HN
      rw [← (show rd_T54 xs (k : Int) = xs[k] by simp [rd_T54, hlt])] at hm1
      rw [← (show rd_T54 ys (k : Int) = ys[k] by simp [rd_T54, hly])] at hm2
      simp only [Int.toNat_natCast] at d0 d1 d2 d3 d4 e0 e1 e2 e3 e4
      generalize rd_T54 xs (k : Int) = p at *
      generalize rd_T54 ys (k : Int) = q at *
      have HSM := Lib.hid (fun v (hb : Below wr.heap.size wr v) => samefn_c p q M1 M2 m1 m2 hm1 hm2 v (Kd.C_below k1 hb) (Kd.C_below k2 hb))
      have i0 : (0 : Int) ≤ (k : Int) := by omega
      have i1 : (k : Int) < (xs.length : Int) := by omega
      have ha2 : (ad2.add (k * 5)).block < wr.heap.size := World.block_lt_of_cell? wr _ e0
      have hn2 : ¬ (ad2.add (k * 5)).block = wr.heap.size := by omega
      clear k1 k2 hly
      go_wp2_with fail
      refine (HSM.out _ (bal (bal (Below.refl _ _) _) _)).mono ?_
      rintro e w3 ⟨⟨r, rfl, hr⟩, hb3⟩
      have HB3 := Lib.hid (bthen (bal (bal HB.out _) _) hb3)
      have HR := Lib.hid hr
      clear hb3 hr
      cases r
      · have HN' := Lib.hid (show ¬ G by rw [HG.out]; exact HN.out (fun h => by have := HR.out.2 h; cases this))
        clear HE HN HSM
        go_wp2
        go_ret
        exact ⟨SameR.no HN'.out, HB3.out⟩
      · have HE' := Lib.hid (HE.out (HR.out.1 rfl))
        clear HE HN HSM
        go_wp2
        go_roundw
        case rel => exact ⟨k + 1, by omega, by go_num, HE', HB3⟩
        case measure => simp [intOf]; omega
    · have hke : xs.length = k := by omega
      have HQ := Lib.hid (show G by rw [HG.out]; exact take_all xs ys k hke (by omega) HT.out)
      clear HT hke
      go_wp2
      go_ret
      exact ⟨SameR.yes HQ.out, HB.out⟩
/-- What two blocks have in common when they are the same. -/
def SameB (B C : BlkV) : Prop := B.last = C.last ∧ B.pcs = C.pcs ∧ B.ops = C.ops ∧ B.exits = C.exits
theorem irsame_nn (w : World) : Calls Tryd.prog 21 #[.pointer none, .pointer none] w fun e w' => e = .returned (.bool true) ∧ w = w' := by
  go_enter Tryd.func21, Tryd.ntmps21
  go_wp2
  go_ret
  exact ⟨rfl, rfl⟩
theorem irsame_np (a : Addr) (w : World) : Calls Tryd.prog 21 #[.pointer none, .pointer (some a)] w fun e w' => e = .returned (.bool false) ∧ w = w' := by
  go_enter Tryd.func21, Tryd.ntmps21
  go_wp2
  go_ret
  exact ⟨rfl, rfl⟩
theorem irsame_pn (a : Addr) (w : World) : Calls Tryd.prog 21 #[.pointer (some a), .pointer none] w fun e w' => e = .returned (.bool false) ∧ w = w' := by
  go_enter Tryd.func21, Tryd.ntmps21
  go_wp2
  go_ret
  exact ⟨rfl, rfl⟩
structure SmallB (B : BlkV) : Prop where
  p : B.pcs.length ≤ 1000000
  o : B.ops.length ≤ 1000000
  e : B.exits.length ≤ 1000000
  m : ∀ x ∈ B.exits, x.f4.length ≤ 1000000
set_option maxHeartbeats 8000000 in
set_option maxRecDepth 100000 in
theorem irsame_c (B C : BlkV) (g h : Nat) (w : World) (hB : BlockAt w g B) (hC : BlockAt w h C) (sB : SmallB B) (sC : SmallB C) :
    Calls Tryd.prog 21 #[.pointer (some ⟨g, 0, none⟩), .pointer (some ⟨h, 0, none⟩)] w fun e w' => e = .returned (.bool (decG (SameB B C))) ∧ Below w.heap.size w w' := by
  obtain ⟨A0, a0, pc0, k0⟩ := hB.pcs
  obtain ⟨A1, a1, pc1, k1⟩ := hB.ops
  obtain ⟨A2, a2, pc2, k2⟩ := hB.exits
  have pc3 := hB.last
  obtain ⟨D0, b0, qc0, j0⟩ := hC.pcs
  obtain ⟨D1, b1, qc1, j1⟩ := hC.ops
  obtain ⟨D2, b2, qc2, j2⟩ := hC.exits
  have qc3 := hC.last
  have HW := Lib.hid (fun v (hb : Below w.heap.size w v) => (eqword_c A0 D0 a0 b0 B.pcs C.pcs sB.p sC.p v (Kd.C_below k0 hb) (Kd.C_below j0 hb)).mono fun e w' (h : (∃ r, e = .returned (.bool r) ∧ (r = true ↔ B.pcs = C.pcs)) ∧ Below v.heap.size v w') => (show e = .returned (.bool (decG (B.pcs = C.pcs))) ∧ Below v.heap.size v w' from ⟨SameR.dec h.1, h.2⟩))
  have HO := Lib.hid (fun v (hb : Below w.heap.size w v) => (eqop_c A1 D1 a1 b1 B.ops C.ops sB.o sC.o v (Kd.C_below k1 hb) (Kd.C_below j1 hb)).mono fun e w' (h : (∃ r, e = .returned (.bool r) ∧ (r = true ↔ B.ops = C.ops)) ∧ Below v.heap.size v w') => (show e = .returned (.bool (decG (B.ops = C.ops))) ∧ Below v.heap.size v w' from ⟨SameR.dec h.1, h.2⟩))
  have HE := Lib.hid (fun v (hb : Below w.heap.size w v) => (eqfunc_c A2 D2 a2 b2 B.exits C.exits sB.e sC.e sB.m sC.m v (Kd.C_below k2 hb) (Kd.C_below j2 hb)).mono fun e w' (h : SameR e (B.exits = C.exits) ∧ Below v.heap.size v w') => (show e = .returned (.bool (decG (B.exits = C.exits))) ∧ Below v.heap.size v w' from ⟨SameR.dec h.1, h.2⟩))
  obtain ⟨V, hV⟩ : ∃ V, V = decG (SameB B C) := ⟨_, rfl⟩
  rw [← hV]
  have hcase : (¬ B.last = C.last ∧ V = false) ∨ (B.last = C.last ∧ ((decG (B.pcs = C.pcs) = false ∧ V = false) ∨ (decG (B.pcs = C.pcs) = true ∧ ((decG (B.ops = C.ops) = false ∧ V = false) ∨ (decG (B.ops = C.ops) = true ∧ V = decG (B.exits = C.exits)))))) := by
    rw [hV]
    by_cases q0 : B.last = C.last
    case neg => exact .inl ⟨q0, decG_no fun h => q0 h.1⟩
    refine .inr ⟨q0, ?_⟩
    by_cases q1 : B.pcs = C.pcs
    case neg => exact .inl ⟨decG_no q1, decG_no fun h => q1 h.2.1⟩
    refine .inr ⟨decG_yes q1, ?_⟩
    by_cases q2 : B.ops = C.ops
    case neg => exact .inl ⟨decG_no q2, decG_no fun h => q2 h.2.2.1⟩
    refine .inr ⟨decG_yes q2, ?_⟩
    by_cases q3 : B.exits = C.exits
    · rw [decG_yes q3, decG_yes ⟨q0, q1, q2, q3⟩]
    · rw [decG_no q3, decG_no fun h => q3 h.2.2.2]
  generalize decG (B.pcs = C.pcs) = u0 at *
  generalize decG (B.ops = C.ops) = u1 at *
  generalize decG (B.exits = C.exits) = u2 at *
  clear hV hB hC k0 k1 k2 j0 j1 j2 sB sC
  generalize B.pcs.length = x0 at *
  generalize B.ops.length = x1 at *
  generalize B.exits.length = x2 at *
  generalize C.pcs.length = y0 at *
  generalize C.ops.length = y1 at *
  generalize C.exits.length = y2 at *
  generalize B.last = l0 at *
  generalize C.last = l1 at *
  rcases hcase with ⟨q0, rfl⟩ | ⟨q0, ⟨rfl, rfl⟩ | ⟨rfl, ⟨rfl, rfl⟩ | ⟨rfl, rfl⟩⟩⟩
  case inl =>
    have t0 := bnb q0
    clear q0
    go_enter Tryd.func21, Tryd.ntmps21
    go_wp2
    refine wp_region_below (by kernel_rfl) (by kernel_rfl) ?_
    intro S _ F hF hS
    have e0 := fcell hF pc0
    have e1 := fcell hF pc1
    have e2 := fcell hF pc2
    have e3 := fcell hF pc3
    have e4 := fcell hF qc0
    have e5 := fcell hF qc1
    have e6 := fcell hF qc2
    have e7 := fcell hF qc3
    have HRF : ∀ s, Hid (Below w.heap.size w (F s)) := fun s => Lib.hid (hF s)
    clear pc0 pc1 pc2 pc3 qc0 qc1 qc2 qc3
    repeat (go_big_quiet_step (first | (go_at_call 44; exact qbelow hS (HW.out _ (HRF _).out)) | (go_at_call 45; exact qbelow hS (HO.out _ (HRF _).out)) | (go_at_call 46; exact qbelow hS (HE.out _ (HRF _).out)) | fail))
    refine wpQuiet_nil ?_
    intro w2 hw2
    obtain ⟨s2, rfl⟩ := hw2
    have HB2 := Lib.hid (HRF s2).out
    clear e0 e1 e2 e3 e4 e5 e6 e7 hF hS HRF HW HO HE
    generalize F s2 = w2 at *
    go_wp2
    go_ret
    exact ⟨rfl, HB2.out⟩
  all_goals
    have t0 := byb q0
    clear q0
    go_enter Tryd.func21, Tryd.ntmps21
    go_wp2
    refine wp_region_below (by kernel_rfl) (by kernel_rfl) ?_
    intro S _ F hF hS
    have e0 := fcell hF pc0
    have e1 := fcell hF pc1
    have e2 := fcell hF pc2
    have e3 := fcell hF pc3
    have e4 := fcell hF qc0
    have e5 := fcell hF qc1
    have e6 := fcell hF qc2
    have e7 := fcell hF qc3
    have HRF : ∀ s, Hid (Below w.heap.size w (F s)) := fun s => Lib.hid (hF s)
    clear pc0 pc1 pc2 pc3 qc0 qc1 qc2 qc3
    repeat (go_big_quiet_step (first | (go_at_call 44; exact qbelow hS (HW.out _ (HRF _).out)) | (go_at_call 45; exact qbelow hS (HO.out _ (HRF _).out)) | (go_at_call 46; exact qbelow hS (HE.out _ (HRF _).out)) | fail))
    refine wpQuiet_nil ?_
    intro w2 hw2
    obtain ⟨s2, rfl⟩ := hw2
    have HB2 := Lib.hid (HRF s2).out
    clear e0 e1 e2 e3 e4 e5 e6 e7 hF hS HRF HW HO HE
    generalize F s2 = w2 at *
    go_wp2
    go_ret
    exact ⟨rfl, HB2.out⟩
end Go.Proofs.YtlnbghhhifnbdaaDoor

/- Contracts of the library's Clone over the lists of a block. Conditions: the slice reads as the list, which has at most a million entries. -/
namespace Go.Proofs.YtlnbghhhifnbdaaDoor
open Go.RowKit Go.Deep Go.Proofs.YtlnbghhhifnbdaaDoorW.PrintWords Go.Proofs.YtlnbghhhifnbdaaDoorW.PrintMore Go.Proofs.YtlnbghhhifnbdaaDoor.PIrTexts
set_option linter.unusedVariables false
set_option linter.unusedSimpArgs false

theorem infoU32 : (Tryd.prog.info? 36).map (fun i => (i.zero, i.size, i.bytes)) = some (some (.int .u32 0), 1, 4) := by kernel_rfl
theorem R_empty {α : Type} (d : Kd α) (e base : Nat) (w : World) (hb : base ≤ w.heap.size) : d.R e (w.alloc (.cells #[] e)) base (fun _ => True) (.slice (some ⟨w.heap.size, 0, none⟩) 0 0) [] :=
  ⟨fun _ _ => trivial, [], ⟨by simp, .inr ⟨w.heap.size, 0, #[], rfl, hb, blk_new _ _, Nat.le_refl _, Nat.zero_le _, by simp, by simp⟩⟩, Reps.none _ _⟩
/-- An exit's cells. -/
def exCs (u : Value) (x : S54) : List Value := [.int .i64 x.f0, .int .u32 x.f1, .int .i64 x.f2, .int .i64 x.f3, u]
instance : Inhabited Value := ⟨undef⟩
theorem exits_raw {w : World} {A : Option Addr} {n : Nat} {xs : List S54} (h : k54.C w A n xs) : ∃ us : List Value, us.length = xs.length ∧ (Kd.raw 5).C w A n (List.zipWith exCs us xs) ∧ ∀ (i : Nat) (u : Value) (x : S54), us[i]? = some u → xs[i]? = some x → ∃ A4 c4, u = .slice A4 x.f4.length c4 ∧ k56.C w A4 x.f4.length x.f4 := by
  obtain ⟨hl, hm, hc⟩ := h
  rcases Nat.eq_zero_or_pos n with h0 | h0
  · subst h0
    obtain rfl : xs = [] := List.eq_nil_of_length_eq_zero hl
    exact ⟨[], rfl, ⟨rfl, hm, fun h => absurd h (by omega)⟩, fun i u x hu => by simp at hu⟩
  obtain ⟨ad, rfl, hc2⟩ := hc h0
  have hex : ∀ i, i < n → ∃ u : Value, ∃ x, xs[i]? = some x ∧ (∃ A4 c4, u = .slice A4 x.f4.length c4 ∧ k56.C w A4 x.f4.length x.f4) ∧ ∀ j v, (exCs u x)[j]? = some v → w.cell? (ad.add (i * 5 + j)) = some v := by
    intro i hi
    obtain ⟨c, hlc, hK, hcell⟩ := hc2 i _ (List.getElem?_eq_getElem (by omega))
    obtain ⟨A4, c4, rfl, l4, g4⟩ := k54_open hK
    exact ⟨_, _, List.getElem?_eq_getElem (by omega), ⟨A4, c4, rfl, g4⟩, hcell⟩
  obtain ⟨F, hF⟩ := choose_lt (n := n) (p := fun i (u : Value) => ∃ x, xs[i]? = some x ∧ (∃ A4 c4, u = .slice A4 x.f4.length c4 ∧ k56.C w A4 x.f4.length x.f4) ∧ ∀ j v, (exCs u x)[j]? = some v → w.cell? (ad.add (i * 5 + j)) = some v) hex
  refine ⟨(List.range n).map F, by simp [hl], ⟨by simp [hl], hm, fun _ => ⟨ad, rfl, fun j p hj => ?_⟩⟩, fun i u x hu hx => ?_⟩
  · have hjn : j < n := by have := (List.getElem?_eq_some_iff.1 hj).1; simp at this; omega
    obtain ⟨x, hx, ⟨A4, c4, hu, g4⟩, hcell⟩ := hF j hjn
    have hp : p = exCs (F j) x := by
      rw [List.getElem?_zipWith, List.getElem?_map, List.getElem?_range hjn, hx] at hj
      simpa using hj.symm
    subst hp
    refine ⟨exCs (F j) x, rfl, ⟨rfl, rfl, ?_⟩, hcell⟩
    intro v hv
    simp only [exCs, List.mem_cons, List.not_mem_nil, or_false] at hv
    rw [hu] at hv
    rcases hv with rfl | rfl | rfl | rfl | rfl <;> rfl
  · have hi : i < n := by have := (List.getElem?_eq_some_iff.1 hu).1; simpa using this
    obtain ⟨x', hx', hA, _⟩ := hF i hi
    rw [hx] at hx'
    cases hx'
    rw [List.getElem?_map, List.getElem?_range hi] at hu
    obtain rfl : F i = u := by simpa using hu
    exact hA
set_option maxHeartbeats 4000000 in
set_option maxRecDepth 100000 in
theorem clone_u (A : Option Addr) (c n : Nat) (xs : List Int) (hx : n ≤ 1000000) (w : World) (hC : (Kd.int .u32).C w A n xs) :
    Calls Tryd.prog 37 #[.slice A n c] w fun e w' => (∃ v, e = .returned v ∧ Kd.R (Kd.int .u32) 36 w' w.heap.size (fun _ => True) v xs) ∧ Below w.heap.size w w' := by
  have hn : xs.length = n := hC.1
  rcases A with _ | ad
  · have h0 : n = 0 := by
      rcases Nat.eq_zero_or_pos n with h0 | h0
      · exact h0
      · obtain ⟨ad, h, _⟩ := hC.2.2 h0
        cases h
    subst h0
    obtain rfl : xs = [] := List.eq_nil_of_length_eq_zero hn
    clear hC
    have hE := fun v => Go.Lib.run_eql_slice_nil_nil (P := Tryd.prog) v 0 c Tryd.underlying22
    go_enter Tryd.func37, Tryd.ntmps37
    go_wp2
    go_ret
    exact ⟨⟨_, rfl, Kd.R_nil _ _ _ _ _⟩, Below.refl _ _⟩
  · have HC := Lib.hid hC
    clear hC
    have hE := fun v => Go.Lib.run_eql_slice_some_nil (P := Tryd.prog) v ad n c Tryd.underlying22
    go_enter Tryd.func37, Tryd.ntmps37
    go_wp2_with (at_builtin; refine Kd.R_append_rows (Kd.int .u32) (w0 := w) w.heap.size rfl _ _ 22 36 (.int .u32 0) 4 rfl Tryd.underlying22 infoU32 rfl (by decide) (by decide) (.slice (some ⟨w.heap.size, 0, none⟩) 0 0) [] xs (some ad) n c (fun _ => True) (fun _ => False) rfl rfl (R_empty (Kd.int .u32) 36 w.heap.size w (Nat.le_refl _)) (Kd.C_below HC.out (bal (Below.refl _ _) _)) (fun _ _ h => h) (fun _ hk => hk.elim) (fun _ _ => trivial) (bal (Below.refl _ _) _) (bal (Below.refl w.heap.size w) _).size (by simp; omega) ?_)
    intro v1 w1 hr hb hg hat
    have HR := Lib.hid hr
    have HB := Lib.hid hb
    clear hr hb hg hat
    go_wp2
    go_ret
    exact ⟨⟨_, rfl, HR.out⟩, HB.out⟩
set_option maxHeartbeats 4000000 in
set_option maxRecDepth 100000 in
theorem clone_o (A : Option Addr) (c n : Nat) (xs : List S41) (hx : n ≤ 1000000) (w : World) (hC : k41.C w A n xs) :
    Calls Tryd.prog 38 #[.slice A n c] w fun e w' => (∃ v, e = .returned v ∧ Kd.R k41 41 w' w.heap.size (fun _ => True) v xs) ∧ Below w.heap.size w w' := by
  have hn : xs.length = n := hC.1
  rcases A with _ | ad
  · have h0 : n = 0 := by
      rcases Nat.eq_zero_or_pos n with h0 | h0
      · exact h0
      · obtain ⟨ad, h, _⟩ := hC.2.2 h0
        cases h
    subst h0
    obtain rfl : xs = [] := List.eq_nil_of_length_eq_zero hn
    clear hC
    have hE := fun v => Go.Lib.run_eql_slice_nil_nil (P := Tryd.prog) v 0 c Tryd.underlying48
    go_enter Tryd.func38, Tryd.ntmps38
    go_wp2
    go_ret
    exact ⟨⟨_, rfl, Kd.R_nil _ _ _ _ _⟩, Below.refl _ _⟩
  · have HC := Lib.hid hC
    clear hC
    have hE := fun v => Go.Lib.run_eql_slice_some_nil (P := Tryd.prog) v ad n c Tryd.underlying48
    go_enter Tryd.func38, Tryd.ntmps38
    go_wp2_with (at_builtin; refine Kd.R_append_rows k41 (w0 := w) w.heap.size rfl _ _ 48 41 (.agg #[.int .i64 0, .int .i64 0, .int .i64 0, .int .u32 0, .int .i64 0, .int .i64 0]) 48 rfl Tryd.underlying48 infoOp rfl (by decide) (by decide) (.slice (some ⟨w.heap.size, 0, none⟩) 0 0) [] xs (some ad) n c (fun _ => True) (fun _ => False) rfl rfl (R_empty k41 41 w.heap.size w (Nat.le_refl _)) (Kd.C_below HC.out (bal (Below.refl _ _) _)) (fun _ _ h => by rw [k41_open h]; exact k41_mkM _ _ _ _) (fun _ hk => hk.elim) (fun _ _ => trivial) (bal (Below.refl _ _) _) (bal (Below.refl w.heap.size w) _).size (by simp; omega) ?_)
    intro v1 w1 hr hb hg hat
    have HR := Lib.hid hr
    have HB := Lib.hid hb
    clear hr hb hg hat
    go_wp2
    go_ret
    exact ⟨⟨_, rfl, HR.out⟩, HB.out⟩
set_option maxHeartbeats 4000000 in
set_option maxRecDepth 100000 in
theorem clone_v (A : Option Addr) (c n : Nat) (xs : List S56) (hx : n ≤ 1000000) (w : World) (hC : k56.C w A n xs) :
    Calls Tryd.prog 40 #[.slice A n c] w fun e w' => (∃ v, e = .returned v ∧ Kd.R k56 56 w' w.heap.size (fun _ => True) v xs) ∧ Below w.heap.size w w' := by
  have hn : xs.length = n := hC.1
  rcases A with _ | ad
  · have h0 : n = 0 := by
      rcases Nat.eq_zero_or_pos n with h0 | h0
      · exact h0
      · obtain ⟨ad, h, _⟩ := hC.2.2 h0
        cases h
    subst h0
    obtain rfl : xs = [] := List.eq_nil_of_length_eq_zero hn
    clear hC
    have hE := fun v => Go.Lib.run_eql_slice_nil_nil (P := Tryd.prog) v 0 c Tryd.underlying52
    go_enter Tryd.func40, Tryd.ntmps40
    go_wp2
    go_ret
    exact ⟨⟨_, rfl, Kd.R_nil _ _ _ _ _⟩, Below.refl _ _⟩
  · have HC := Lib.hid hC
    clear hC
    have hE := fun v => Go.Lib.run_eql_slice_some_nil (P := Tryd.prog) v ad n c Tryd.underlying52
    go_enter Tryd.func40, Tryd.ntmps40
    go_wp2_with (at_builtin; refine Kd.R_append_rows k56 (w0 := w) w.heap.size rfl _ _ 52 56 (.agg #[.int .i64 0, .int .i64 0]) 16 rfl Tryd.underlying52 infoVal rfl (by decide) (by decide) (.slice (some ⟨w.heap.size, 0, none⟩) 0 0) [] xs (some ad) n c (fun _ => True) (fun _ => False) rfl rfl (R_empty k56 56 w.heap.size w (Nat.le_refl _)) (Kd.C_below HC.out (bal (Below.refl _ _) _)) (fun _ _ h => by rw [k56_open h]; exact k56_mkM _ _ _ _) (fun _ hk => hk.elim) (fun _ _ => trivial) (bal (Below.refl _ _) _) (bal (Below.refl w.heap.size w) _).size (by simp; omega) ?_)
    intro v1 w1 hr hb hg hat
    have HR := Lib.hid hr
    have HB := Lib.hid hb
    clear hr hb hg hat
    go_wp2
    go_ret
    exact ⟨⟨_, rfl, HR.out⟩, HB.out⟩
set_option maxHeartbeats 4000000 in
set_option maxRecDepth 100000 in
theorem clone_e (A : Option Addr) (c n : Nat) (xs : List (List Value)) (hx : n ≤ 1000000) (w : World) (hC : (Kd.raw 5).C w A n xs) :
    Calls Tryd.prog 39 #[.slice A n c] w fun e w' => (∃ v, e = .returned v ∧ Kd.R (Kd.raw 5) 54 w' w.heap.size (fun _ => True) v xs) ∧ Below w.heap.size w w' := by
  have hn : xs.length = n := hC.1
  rcases A with _ | ad
  · have h0 : n = 0 := by
      rcases Nat.eq_zero_or_pos n with h0 | h0
      · exact h0
      · obtain ⟨ad, h, _⟩ := hC.2.2 h0
        cases h
    subst h0
    obtain rfl : xs = [] := List.eq_nil_of_length_eq_zero hn
    clear hC
    have hE := fun v => Go.Lib.run_eql_slice_nil_nil (P := Tryd.prog) v 0 c Tryd.underlying49
    go_enter Tryd.func39, Tryd.ntmps39
    go_wp2
    go_ret
    exact ⟨⟨_, rfl, Kd.R_nil _ _ _ _ _⟩, Below.refl _ _⟩
  · have HC := Lib.hid hC
    clear hC
    have hE := fun v => Go.Lib.run_eql_slice_some_nil (P := Tryd.prog) v ad n c Tryd.underlying49
    go_enter Tryd.func39, Tryd.ntmps39
    go_wp2_with (at_builtin; refine Kd.R_append_rows (Kd.raw 5) (w0 := w) w.heap.size rfl _ _ 49 54 (.agg #[.int .i64 0, .int .u32 0, .int .i64 0, .int .i64 0, .slice none 0 0]) 56 rfl Tryd.underlying49 infoExit rfl (by decide) (by decide) (.slice (some ⟨w.heap.size, 0, none⟩) 0 0) [] xs (some ad) n c (fun _ => True) (fun _ => False) rfl rfl (R_empty (Kd.raw 5) 54 w.heap.size w (Nat.le_refl _)) (Kd.C_below HC.out (bal (Below.refl _ _) _)) (fun _ _ h => h) (fun _ hk => hk.elim) (fun _ _ => trivial) (bal (Below.refl _ _) _) (bal (Below.refl w.heap.size w) _).size (by simp; omega) ?_)
    intro v1 w1 hr hb hg hat
    have HR := Lib.hid hr
    have HB := Lib.hid hb
    clear hr hb hg hat
    go_wp2
    go_ret
    exact ⟨⟨_, rfl, HR.out⟩, HB.out⟩
end Go.Proofs.YtlnbghhhifnbdaaDoor

/- Contract of ir.Clone. Conditions: the block reads as the given one, its lists have at most a million entries. -/
namespace Go.Proofs.YtlnbghhhifnbdaaDoor
open Go.RowKit Go.Proofs.YtlnbghhhifnbdaaDoorW.PrintWords Go.Proofs.YtlnbghhhifnbdaaDoorW.PrintMore Go.Proofs.YtlnbghhhifnbdaaDoor.PIrTexts
set_option linter.unusedVariables false
set_option linter.unusedSimpArgs false

theorem clone_nil (w : World) : Calls Tryd.prog 18 #[.pointer none] w fun e w' => e = .returned (.pointer none) ∧ w = w' := by
  go_enter Tryd.func18, Tryd.ntmps18
  go_wp2
  go_ret
  exact ⟨rfl, rfl⟩
/-- What Clone has made of a block's parts, ahead of its loop. -/
def PartP (N : Nat) (B : BlkV) (v : Value) (w : World) : Prop := Kd.R (Kd.int .u32) 36 w N (fun _ => True) v B.pcs
def PartO (N : Nat) (B : BlkV) (v : Value) (w : World) : Prop := Kd.R k41 41 w N (fun _ => True) v B.ops
def PartE (N : Nat) (w0 : World) (B : BlkV) (v : Value) (w : World) : Prop := ∃ us : List Value, us.length = B.exits.length ∧ Kd.R (Kd.raw 5) 54 w N (fun _ => True) v (List.zipWith exCs us B.exits) ∧ ∀ (i : Nat) (u : Value) (x : S54), us[i]? = some u → B.exits[i]? = some x → ∃ A4 c4, u = .slice A4 x.f4.length c4 ∧ k56.C w0 A4 x.f4.length x.f4
def PartB (N : Nat) (w0 : World) (B : BlkV) (v : Value) (w : World) : Prop := ∃ v0 v1 v2, v = .agg #[v0, v1, v2, .int .i64 B.last] ∧ PartP N B v0 w ∧ PartO N B v1 w ∧ PartE N w0 B v2 w
def PartX (N : Nat) (w0 : World) (B : BlkV) (v : Value) (w : World) : Prop := ∃ g v0 v1 v2, v = .pointer (some ⟨g, 0, none⟩) ∧ N ≤ g ∧ w.heap[g]? = some (.cells #[v0, v1, v2, .int .i64 B.last] 51 (0, 0)) ∧ PartP N B v0 w ∧ PartO N B v1 w ∧ PartE N w0 B v2 w
section
variable {N : Nat} {w0 : World} {B : BlkV}
theorem PartP.keep (v : Value) (w1 w2 : World) (h : PartP N B v w1) (hb : Below w1.heap.size w1 w2) : PartP N B v w2 := Kd.R_below h hb
theorem PartO.keep (v : Value) (w1 w2 : World) (h : PartO N B v w1) (hb : Below w1.heap.size w1 w2) : PartO N B v w2 := Kd.R_below h hb
theorem PartE.keep (v : Value) (w1 w2 : World) (h : PartE N w0 B v w1) (hb : Below w1.heap.size w1 w2) : PartE N w0 B v w2 := by
  obtain ⟨us, a, b, c⟩ := h
  exact ⟨us, a, Kd.R_below b hb, c⟩
theorem PartB.keep (v : Value) (w1 w2 : World) (h : PartB N w0 B v w1) (hb : Below w1.heap.size w1 w2) : PartB N w0 B v w2 := by
  obtain ⟨v0, v1, v2, a, b, c, d⟩ := h
  exact ⟨v0, v1, v2, a, PartP.keep _ _ _ b hb, PartO.keep _ _ _ c hb, PartE.keep _ _ _ d hb⟩
theorem PartX.keep (v : Value) (w1 w2 : World) (h : PartX N w0 B v w1) (hb : Below w1.heap.size w1 w2) : PartX N w0 B v w2 := by
  obtain ⟨g, v0, v1, v2, a, hg, hh, b, c, d⟩ := h
  exact ⟨g, v0, v1, v2, a, hg, blk_below hh hb, PartP.keep _ _ _ b hb, PartO.keep _ _ _ c hb, PartE.keep _ _ _ d hb⟩
end
theorem part_p (B : BlkV) (A : Option Addr) (c : Nat) (N : Nat) (hl : B.pcs.length ≤ 1000000) (v : World) (hN : N ≤ v.heap.size) (hC : (Kd.int .u32).C v A B.pcs.length B.pcs) :
    Calls Tryd.prog 37 #[.slice A B.pcs.length c] v fun e w' => (∃ u, e = .returned u ∧ PartP N B u w') ∧ Below v.heap.size v w' :=
  (clone_u A c _ B.pcs hl v hC).mono fun e w' h => by
    obtain ⟨⟨u, he, hr⟩, hb⟩ := h
    exact ⟨⟨u, he, Kd.R_lower hr hN⟩, hb⟩
theorem part_o (B : BlkV) (A : Option Addr) (c : Nat) (N : Nat) (hl : B.ops.length ≤ 1000000) (v : World) (hN : N ≤ v.heap.size) (hC : k41.C v A B.ops.length B.ops) :
    Calls Tryd.prog 38 #[.slice A B.ops.length c] v fun e w' => (∃ u, e = .returned u ∧ PartO N B u w') ∧ Below v.heap.size v w' :=
  (clone_o A c _ B.ops hl v hC).mono fun e w' h => by
    obtain ⟨⟨u, he, hr⟩, hb⟩ := h
    exact ⟨⟨u, he, Kd.R_lower hr hN⟩, hb⟩
theorem part_e (w0 : World) (B : BlkV) (A : Option Addr) (c : Nat) (hl : B.exits.length ≤ 1000000) (hC : k54.C w0 A B.exits.length B.exits) (v : World) (hb0 : Below w0.heap.size w0 v) :
    Calls Tryd.prog 39 #[.slice A B.exits.length c] v fun e w' => (∃ u, e = .returned u ∧ PartE w0.heap.size w0 B u w') ∧ Below v.heap.size v w' := by
  obtain ⟨us, hus, hC2, hall⟩ := exits_raw hC
  refine (clone_e A c _ _ hl v (Kd.C_below hC2 hb0)).mono fun e w' h => ?_
  obtain ⟨⟨u, he, hr⟩, hb⟩ := h
  exact ⟨⟨u, he, us, hus, Kd.R_lower hr hb0.size, hall⟩, hb⟩
/-- The state of Clone's loop: the maps ahead of k are its own. -/
structure CSt (w wr : World) (B : BlkV) (gc h : Nat) (v0 v1 : Value) (cap k : Nat) : Prop where
  bel : Below w.heap.size w wr
  gcN : w.heap.size ≤ gc
  hN : w.heap.size ≤ h
  blk : wr.heap[gc]? = some (.cells #[v0, v1, .slice (some ⟨h, 0, none⟩) B.exits.length cap, .int .i64 B.last] 51 (0, 0))
  r0 : PartP w.heap.size B v0 wr
  r1 : PartO w.heap.size B v1 wr
  hb : ∃ cur, wr.heap[h]? = some (.cells cur 54 (0, 0))
  el : ∀ (i : Nat) (x : S54), B.exits[i]? = some x → wr.cell? ⟨h, i * 5, none⟩ = some (.int .i64 x.f0) ∧ wr.cell? ⟨h, i * 5 + 1, none⟩ = some (.int .u32 x.f1) ∧ wr.cell? ⟨h, i * 5 + 2, none⟩ = some (.int .i64 x.f2) ∧ wr.cell? ⟨h, i * 5 + 3, none⟩ = some (.int .i64 x.f3) ∧
    ∃ u, wr.cell? ⟨h, i * 5 + 4, none⟩ = some u ∧ ((i < k ∧ Kd.R k56 56 wr w.heap.size (fun _ => True) u x.f4) ∨ (k ≤ i ∧ ∃ A4 c4, u = .slice A4 x.f4.length c4 ∧ k56.C w A4 x.f4.length x.f4))
theorem CSt.below {w wr w1 : World} {B : BlkV} {gc h : Nat} {v0 v1 : Value} {cap k : Nat} (s : CSt w wr B gc h v0 v1 cap k) (hb : Below wr.heap.size wr w1) : CSt w w1 B gc h v0 v1 cap k := by
  obtain ⟨cur, hc⟩ := s.hb
  refine ⟨bthen s.bel hb, s.gcN, s.hN, blk_below s.blk hb, PartP.keep _ _ _ s.r0 hb, PartO.keep _ _ _ s.r1 hb, ⟨cur, blk_below hc hb⟩, fun i x hx => ?_⟩
  obtain ⟨a, b, c, d, u, hu, hr⟩ := s.el i x hx
  refine ⟨cellk hb a, cellk hb b, cellk hb c, cellk hb d, u, cellk hb hu, ?_⟩
  rcases hr with ⟨hk, hr⟩ | hr
  · exact .inl ⟨hk, Kd.R_below hr hb⟩
  · exact .inr hr
theorem CSt.store {w wr : World} {B : BlkV} {gc h : Nat} {v0 v1 : Value} {cap k : Nat} (s : CSt w wr B gc h v0 v1 cap k) (hk : k < B.exits.length) (u : Value) (hu : ∀ x, B.exits[k]? = some x → Kd.R k56 56 wr w.heap.size (fun _ => True) u x.f4) : CSt w (wr.setCell ⟨h, k * 5 + 4, none⟩ u) B gc h v0 v1 cap (k + 1) := by
  obtain ⟨cur, hc⟩ := s.hb
  have hne : gc ≠ h := blk_ne s.blk hc (by decide)
  have hset := blk_set hc (k * 5 + 4) u
  have hcell : ∀ j v, wr.cell? ⟨h, j, none⟩ = some v → j ≠ k * 5 + 4 → (wr.setCell ⟨h, k * 5 + 4, none⟩ u).cell? ⟨h, j, none⟩ = some v := by
    intro j v hv hj
    rw [blk_cell hc] at hv
    rw [blk_cell hset, Array.getElem?_setIfInBounds_ne (by omega)]
    exact hv
  refine ⟨bset s.bel s.hN u, s.gcN, s.hN, blk_far s.blk (by simpa using hne) u, ?_, ?_, ⟨_, hset⟩, fun i x hx => ?_⟩
  · exact Kd.R_set s.r0 hc (by decide) _ _
  · exact Kd.R_set s.r1 hc (by decide) _ _
  · obtain ⟨a, b, c, d, v, hv, hr⟩ := s.el i x hx
    refine ⟨hcell _ _ a (by omega), hcell _ _ b (by omega), hcell _ _ c (by omega), hcell _ _ d (by omega), ?_⟩
    by_cases hik : i = k
    · subst hik
      refine ⟨u, ?_, .inl ⟨by omega, Kd.R_set (hu x hx) hc (by decide) _ _⟩⟩
      have hv2 := hv
      rw [blk_cell hc] at hv2
      have hlt : i * 5 + 4 < cur.size := (Array.getElem?_eq_some_iff.1 hv2).1
      rw [blk_cell hset, Array.getElem?_setIfInBounds_self_of_lt hlt]
    · refine ⟨v, hcell _ _ hv (by omega), ?_⟩
      rcases hr with ⟨hk2, hr⟩ | ⟨hk2, hr⟩
      · exact .inl ⟨by omega, Kd.R_set hr hc (by decide) _ _⟩
      · exact .inr ⟨by omega, hr⟩
/-- A block that stands in any world where what is new since N is as here. -/
def Fresh (N : Nat) (w : World) (g : Nat) (B : BlkV) : Prop := Foot (fun W => BlockAt W g B) w (fun k => N ≤ k)
theorem CSt.fresh {w wr : World} {B : BlkV} {gc h : Nat} {v0 v1 : Value} {cap : Nat} (s : CSt w wr B gc h v0 v1 cap B.exits.length) (hl : B.exits.length ≤ 1000000) : Fresh w.heap.size wr gc B := by
  intro W hW
  obtain ⟨cur, hc⟩ := s.hb
  have hgc : W.heap[gc]? = some (.cells #[v0, v1, .slice (some ⟨h, 0, none⟩) B.exits.length cap, .int .i64 B.last] 51 (0, 0)) := (hW gc s.gcN (blk_lt s.blk)).trans s.blk
  have hh : W.heap[h]? = some (.cells cur 54 (0, 0)) := (hW h s.hN (blk_lt hc)).trans hc
  have mv : ∀ {α : Type} {d : Kd α} {e : Nat} {v : Value} {xs : List α}, d.R e wr w.heap.size (fun _ => True) v xs → d.R e W w.heap.size (fun k => True ∧ w.heap.size ≤ k ∧ k < wr.heap.size ∧ ∃ q, q ∈ e :: d.E ∧ ∃ cells, wr.heap[k]? = some (.cells cells q (0, 0))) v xs := fun hr => Kd.R_move (Kd.R_bound hr) (fun k hk => hW k hk.2.1 hk.2.2.1)
  have hce : ∀ j v, wr.cell? ⟨h, j, none⟩ = some v → W.cell? ⟨h, j, none⟩ = some v := fun j v hv => by rw [blk_cell hc] at hv; rw [blk_cell hh]; exact hv
  obtain ⟨A0, c0, rfl, -, C0⟩ := Kd.R_reads (mv s.r0)
  obtain ⟨A1, c1, rfl, -, C1⟩ := Kd.R_reads (mv s.r1)
  refine ⟨⟨A0, c0, by rw [blk_cell hgc]; rfl, C0⟩, ⟨A1, c1, by rw [blk_cell hgc]; rfl, C1⟩, ⟨some ⟨h, 0, none⟩, cap, by rw [blk_cell hgc]; rfl, ⟨rfl, by omega, fun _ => ⟨_, rfl, fun j p hj => ?_⟩⟩⟩, by rw [blk_cell hgc]; rfl⟩
  obtain ⟨a, b, c, d, u, hu, hr⟩ := s.el j p hj
  have hjl : j < B.exits.length := (List.getElem?_eq_some_iff.1 hj).1
  rcases hr with ⟨_, hr⟩ | ⟨hk, _⟩
  case inr => omega
  obtain ⟨A4, c4, rfl, l4, C4⟩ := Kd.R_reads (mv hr)
  refine ⟨_, rfl, k54_mk W p l4 C4, fun i v hv => ?_⟩
  rw [add_plain, show k54.sz = 5 from rfl]
  match i, hv with
  | 0, hv => cases hv; exact hce _ _ a
  | 1, hv => cases hv; exact hce _ _ b
  | 2, hv => cases hv; exact hce _ _ c
  | 3, hv => cases hv; exact hce _ _ d
  | 4, hv => cases hv; exact hce _ _ hu
  | i + 5, hv => simp at hv
end Go.Proofs.YtlnbghhhifnbdaaDoor

/- The walk of ir.Clone. Conditions: the block reads as the given one, its lists have at most a million entries. -/
namespace Go.Proofs.YtlnbghhhifnbdaaDoor
open Go.RowKit Go.Proofs.YtlnbghhhifnbdaaDoorW.PrintWords Go.Proofs.YtlnbghhhifnbdaaDoorW.PrintMore Go.Proofs.YtlnbghhhifnbdaaDoor.PIrTexts
set_option linter.unusedVariables false
set_option linter.unusedSimpArgs false

theorem zip_at {us : List Value} {xs : List S54} (i : Nat) (x : S54) (hl : us.length = xs.length) (hx : xs[i]? = some x) : ∃ u, us[i]? = some u ∧ (List.zipWith exCs us xs)[i]? = some (exCs u x) := by
  have hi : i < us.length := by rw [hl]; exact (List.getElem?_eq_some_iff.1 hx).1
  exact ⟨us[i], List.getElem?_eq_getElem hi, by rw [List.getElem?_zipWith, List.getElem?_eq_getElem hi, hx]⟩
theorem PartX.start {w wr : World} {B : BlkV} {v : Value} (h : PartX w.heap.size w B v wr) (hb : Below w.heap.size w wr) (hp : 0 < B.exits.length) : ∃ gc g v0 v1 cap, v = .pointer (some ⟨gc, 0, none⟩) ∧ CSt w wr B gc g v0 v1 cap 0 := by
  obtain ⟨gc, v0, v1, v2, rfl, hg, hh, r0, r1, us, hl, r2, hall⟩ := h
  have hzl : (List.zipWith exCs us B.exits).length = B.exits.length := by simp [hl]
  obtain ⟨g, cap, hv, hN, hlt, cells, hc⟩ := Kd.R_form r2 (by rw [hzl]; exact hp)
  obtain ⟨A, c, hv2, -, hC⟩ := Kd.R_reads r2
  rw [hv] at hv2
  rw [hzl] at hv hC
  cases hv2
  subst hv
  refine ⟨gc, g, v0, v1, cap, rfl, hb, hg, hN, hh, r0, r1, ⟨cells, hc⟩, fun i x hx => ?_⟩
  obtain ⟨u, hu, hz⟩ := zip_at i x hl hx
  obtain ⟨ad, had, hcell⟩ := hC.2.2 hp
  cases had
  obtain ⟨cs, -, hK, hce⟩ := hcell i _ hz
  obtain rfl : cs = exCs u x := hK.1
  obtain ⟨A4, c4, rfl, h4⟩ := hall i u x hu hx
  have hq : ∀ j v, (exCs (.slice A4 x.f4.length c4) x)[j]? = some v → wr.cell? ⟨g, i * 5 + j, none⟩ = some v := fun j v hv => by
    have := hce j v hv
    rw [add_plain] at this
    exact this
  exact ⟨hq 0 _ rfl, hq 1 _ rfl, hq 2 _ rfl, hq 3 _ rfl, _, hq 4 _ rfl, .inr ⟨Nat.zero_le _, A4, c4, rfl, h4⟩⟩
theorem PartX.fresh {w wr : World} {B : BlkV} {v : Value} (h : PartX w.heap.size w B v wr) (hp : B.exits = []) : ∃ gc cc, v = .pointer (some ⟨gc, 0, none⟩) ∧ w.heap.size ≤ gc ∧ Fresh w.heap.size wr gc B ∧ ∃ A2, wr.cell? ⟨gc, 2, none⟩ = some (.slice A2 0 cc) := by
  obtain ⟨gc, v0, v1, v2, rfl, hg, hh, r0, r1, us, hl, r2, hall⟩ := h
  have mv : ∀ {W : World} {α : Type} {d : Kd α} {e : Nat} {v : Value} {xs : List α}, (∀ k, w.heap.size ≤ k → k < wr.heap.size → W.heap[k]? = wr.heap[k]?) → d.R e wr w.heap.size (fun _ => True) v xs → d.R e W w.heap.size (fun k => True ∧ w.heap.size ≤ k ∧ k < wr.heap.size ∧ ∃ q, q ∈ e :: d.E ∧ ∃ cells, wr.heap[k]? = some (.cells cells q (0, 0))) v xs := fun hW hr => Kd.R_move (Kd.R_bound hr) (fun k hk => hW k hk.2.1 hk.2.2.1)
  have hz : List.zipWith exCs us B.exits = [] := by rw [hp]; simp
  rw [hz] at r2
  obtain ⟨A2, c2, rfl, -, -⟩ := Kd.R_reads r2
  refine ⟨gc, c2, rfl, hg, fun W hW => ?_, A2, by rw [blk_cell hh]; rfl⟩
  have hgc := (hW gc hg (blk_lt hh)).trans hh
  obtain ⟨A0, c0, rfl, -, C0⟩ := Kd.R_reads (mv hW r0)
  obtain ⟨A1, c1, rfl, -, C1⟩ := Kd.R_reads (mv hW r1)
  exact ⟨⟨A0, c0, by rw [blk_cell hgc]; rfl, C0⟩, ⟨A1, c1, by rw [blk_cell hgc]; rfl, C1⟩, ⟨A2, c2, by rw [blk_cell hgc, hp]; rfl, ⟨rfl, by rw [hp]; simp, fun h => by rw [hp] at h; exact absurd h (Nat.lt_irrefl 0)⟩⟩, by rw [blk_cell hgc]; rfl⟩
section
variable {w wr : World} {B : BlkV} {gc h : Nat} {v0 v1 : Value} {cap k : Nat}
theorem CSt.c2 (s : CSt w wr B gc h v0 v1 cap k) : wr.cell? ⟨gc, 2, none⟩ = some (.slice (some ⟨h, 0, none⟩) B.exits.length cap) := by rw [blk_cell s.blk]; rfl
theorem CSt.fz (s : CSt w wr B gc h v0 v1 cap k) (i : Nat) : wr.frozen? ⟨h, i, none⟩ = false := by
  obtain ⟨cur, hc⟩ := s.hb
  exact blk_frozen hc i
theorem CSt.lt (s : CSt w wr B gc h v0 v1 cap k) : h < wr.heap.size := by
  obtain ⟨cur, hc⟩ := s.hb
  exact blk_lt hc
theorem CSt.m (s : CSt w wr B gc h v0 v1 cap k) (hk : k < B.exits.length) : ∃ A4 c4, wr.cell? ⟨h, k * 5 + 4, none⟩ = some (.slice A4 B.exits[k].f4.length c4) ∧ k56.C wr A4 B.exits[k].f4.length B.exits[k].f4 := by
  obtain ⟨-, -, -, -, u, hu, hr⟩ := s.el k _ (List.getElem?_eq_getElem hk)
  rcases hr with ⟨hlt, _⟩ | ⟨_, A4, c4, rfl, hC⟩
  · omega
  · exact ⟨A4, c4, hu, Kd.C_below hC s.bel⟩
end
theorem PartP.form {N : Nat} {B : BlkV} {v : Value} {w : World} (h : PartP N B v w) : ∃ A c, v = .slice A B.pcs.length c := Kd.R_slice h
theorem PartO.form {N : Nat} {B : BlkV} {v : Value} {w : World} (h : PartO N B v w) : ∃ A c, v = .slice A B.ops.length c := Kd.R_slice h
theorem PartE.form {N : Nat} {w0 : World} {B : BlkV} {v : Value} {w : World} (h : PartE N w0 B v w) : ∃ A c, v = .slice A B.exits.length c := by
  obtain ⟨us, a, b, c⟩ := h
  obtain ⟨A, c, h⟩ := Kd.R_slice b
  exact ⟨A, c, by rw [h]; simp [a]⟩
set_option maxHeartbeats 8000000 in
set_option maxRecDepth 100000 in
theorem irclone_c (B : BlkV) (g : Nat) (w : World) (hB : BlockAt w g B) (sB : SmallB B) :
    Calls Tryd.prog 18 #[.pointer (some ⟨g, 0, none⟩)] w fun e w' => (∃ gc, e = .returned (.pointer (some ⟨gc, 0, none⟩)) ∧ w.heap.size ≤ gc ∧ Fresh w.heap.size w' gc B) ∧ Below w.heap.size w w' := by
  obtain ⟨A0, a0, pc0, k0⟩ := hB.pcs
  obtain ⟨A1, a1, pc1, k1⟩ := hB.ops
  obtain ⟨A2, a2, pc2, k2⟩ := hB.exits
  have pc3 := hB.last
  have HP := Lib.hid (fun v (hb : Below w.heap.size w v) => part_p B A0 a0 w.heap.size sB.p v hb.size (Kd.C_below k0 hb))
  have HO := Lib.hid (fun v (hb : Below w.heap.size w v) => part_o B A1 a1 w.heap.size sB.o v hb.size (Kd.C_below k1 hb))
  have HE := Lib.hid (fun v (hb : Below w.heap.size w v) => part_e w B A2 a2 sB.e k2 v hb)
  have HS := Lib.hid sB
  clear hB k0 k1 k2 sB
  go_enter Tryd.func18, Tryd.ntmps18
  go_upto_region 3 with fail
  refine wp_region_fc (by kernel_rfl) (by kernel_rfl) [.is (.pointer (some ⟨g, 0, none⟩)), .is (.pointer (some ⟨g, 0, none⟩)), .is (.pointer (some ⟨g, 0, none⟩)), .is (.slice A0 B.pcs.length a0), .any (PartP w.heap.size B) PartP.keep, .is (.pointer (some ⟨g, 0, none⟩)), .is (.pointer (some ⟨g, 0, none⟩)), .is (.pointer (some ⟨g, 1, none⟩)), .is (.slice A1 B.ops.length a1), .any (PartO w.heap.size B) PartO.keep, .is (.pointer (some ⟨g, 0, none⟩)), .is (.pointer (some ⟨g, 0, none⟩)), .is (.pointer (some ⟨g, 2, none⟩)), .is (.slice A2 B.exits.length a2), .any (PartE w.heap.size w B) PartE.keep, .is (.pointer (some ⟨g, 0, none⟩)), .is (.pointer (some ⟨g, 0, none⟩)), .is (.pointer (some ⟨g, 3, none⟩)), .is (.int .i64 B.last), .any (PartB w.heap.size w B) PartB.keep, .any (PartX w.heap.size w B) PartX.keep, .any (PartX w.heap.size w B) PartX.keep] ?_ ?_
  · intro vs w' hb'
    have x0 := cellk hb' pc0
    have x1 := cellk hb' pc1
    have x2 := cellk hb' pc2
    have x3 := cellk hb' pc3
    have HBW := Lib.hid hb'
    have hsz := hb'.size
    clear pc0 pc1 pc2 pc3
    simp only [factSteps, putAll, Act.put, List.setIfInBounds_toArray, List.set_cons_zero, List.set_cons_succ]
    refine ⟨?_, ?_, ?_, ?_, ?_, ?_, ?_, ?_, ?_, ?_, ?_, ?_, ?_, ?_, ?_, ?_, ?_, ?_, ?_, ?_, ?_, ?_, trivial⟩
    all_goals
      intro he
      simp only [factEdges, Region.binds, List.getD_cons_zero, List.getD_cons_succ, Fc.holds, true_implies, and_true] at he
      try simp only [and_self] at he
      first | (obtain ⟨h4, h9, h14, h18⟩ : PartP w.heap.size B (vs 4) w' ∧ PartO w.heap.size B (vs 9) w' ∧ PartE w.heap.size w B (vs 14) w' ∧ vs 18 = .int .i64 B.last := he; obtain ⟨Z0, z0, q0⟩ := PartP.form h4; obtain ⟨Z1, z1, q1⟩ := PartO.form h9; obtain ⟨Z2, z2, q2⟩ := PartE.form h14; rw [q0] at h4; rw [q1] at h9; rw [q2] at h14; simp only [q0, q1, q2, h18]) | (obtain ⟨v0, v1, v2, hv, h4, h9, h14⟩ : PartB w.heap.size w B (vs 19) w' := he; obtain ⟨Z0, z0, rfl⟩ := PartP.form h4; obtain ⟨Z1, z1, rfl⟩ := PartO.form h9; obtain ⟨Z2, z2, rfl⟩ := PartE.form h14; simp only [hv]) | (simp only [he]) | skip
      go_wp2_with (first | (go_at_call 37; refine (HP.out _ HBW.out).mono ?_; rintro e w5 ⟨⟨u, rfl, hr5⟩, hb5⟩) | (go_at_call 38; refine (HO.out _ HBW.out).mono ?_; rintro e w5 ⟨⟨u, rfl, hr5⟩, hb5⟩) | (go_at_call 39; refine (HE.out _ HBW.out).mono ?_; rintro e w5 ⟨⟨u, rfl, hr5⟩, hb5⟩))
      first
        | exact ⟨rfl, Below.refl _ _⟩
        | exact Below.refl _ _
        | exact rfl
        | exact hr5
        | exact hb5
        | exact bal (Below.refl _ _) _
        | exact ⟨(show PartB w.heap.size w B _ _ from ⟨_, _, _, rfl, h4, h9, h14⟩), Below.refl _ _⟩
        | exact ⟨(show PartX w.heap.size w B _ _ from ⟨_, _, _, _, rfl, hsz, blk_new _ _, PartP.keep _ _ _ h4 (bal (Below.refl _ _) _), PartO.keep _ _ _ h9 (bal (Below.refl _ _) _), PartE.keep _ _ _ h14 (bal (Below.refl _ _) _)⟩), bal (Below.refl _ _) _⟩
        | exact ⟨(show PartX w.heap.size w B _ _ from he.1), Below.refl _ _⟩
  · intro vs w' hb' hall
    simp only [factSteps, List.getD_cons_zero, List.getD_cons_succ, Fc.holds, and_true] at hall
    obtain ⟨-, -, -, -, -, -, -, -, -, -, -, -, -, -, -, -, -, -, -, -, -, e21⟩ := hall
    simp only [putAll, Act.put, List.setIfInBounds_toArray, List.set_cons_zero, List.set_cons_succ, Nat.zero_add, Nat.reduceAdd]
    clear HP HO HE pc0 pc1 pc2 pc3
    by_cases hz : B.exits = []
    · obtain ⟨gc, cc, hv, hgc, hfr, A2, hc⟩ := e21.fresh hz
      have HF := Lib.hid hfr
      have HB := Lib.hid hb'
      clear e21 hfr hb' hz
      generalize vs 21 = v21 at *
      subst hv
      go_wp2
      go_loopw [33] (fun i wr => i = .int .i64 0 ∧ wr = w') (fun i _ => 0)
      case atStart => exact ⟨rfl, rfl⟩
      case round =>
        obtain ⟨rfl, rfl⟩ := hrel
        go_wp2
        go_ret
        exact ⟨⟨gc, rfl, hgc, HF.out⟩, HB.out⟩
    · have hp : 0 < B.exits.length := List.length_pos_iff.2 hz
      obtain ⟨gc, h, v0, v1, cap, hv, s0⟩ := e21.start hb' hp
      have HS0 := Lib.hid s0
      have hc0 := s0.c2
      clear e21 hb' hz
      generalize vs 21 = v21 at *
      subst hv
      go_wp2
      go_loopw [33] (fun i wr => ∃ k : Nat, k ≤ B.exits.length ∧ i = .int .i64 k ∧ Hid (CSt w wr B gc h v0 v1 cap k)) (fun i _ => B.exits.length - (intOf i).toNat)
      case atStart => exact ⟨0, Nat.zero_le _, rfl, HS0⟩
      case round =>
        clear HS0 s0 hc0
        obtain ⟨k, hk, rfl, HC⟩ := hrel
        by_cases hlt : k < B.exits.length
        · obtain ⟨A4, c4, d4, k4⟩ := HC.out.m hlt
          have e2 := HC.out.c2
          have ef := HC.out.fz (k * 5 + 4)
          have hgl : h < wr.heap.size := HC.out.lt
          have hm := HS.out.m _ (List.getElem_mem hlt)
          have hle := HS.out.e
          have HCV := Lib.hid (fun v (hb : Below wr.heap.size wr v) => clone_v A4 c4 _ B.exits[k].f4 hm v (Kd.C_below k4 hb))
          clear k4
          go_wp2
          have HC' := Lib.hid (HC.out.below (bdn (Below.refl _ _) 1))
          have HB' := Lib.hid (bdn (Below.refl wr.heap.size wr) 1)
          go_region_law (go_simp; go_at_call 40; refine (HCV.out _ HB'.out).mono ?_; rintro e w3 ⟨⟨u, rfl, hr3⟩, hb3⟩; obtain ⟨A5, c5, rfl⟩ := Kd.R_slice hr3; have HR3 := Lib.hid hr3; have HC3 := Lib.hid (HC'.out.below hb3); have f2 := HC3.out.c2; have ff := HC3.out.fz (k * 5 + 4); have hl3 : h < w3.heap.size := HC3.out.lt; obtain ⟨-, -, -, -, u4, hu4, -⟩ := HC3.out.el k _ (List.getElem?_eq_getElem hlt); clear hr3 hb3)
          all_goals
            go_wp2
            go_roundw
            case rel => exact ⟨k + 1, by omega, by go_num, Lib.hid (HC3.out.store hlt _ (fun x hx => by rw [List.getElem?_eq_getElem hlt] at hx; cases hx; exact Kd.R_lower HR3.out HC'.out.bel.size))⟩
            case measure => simp [intOf]; omega
        · have hke : k = B.exits.length := by omega
          subst hke
          have HF := Lib.hid (HC.out.fresh HS.out.e)
          have HB := Lib.hid HC.out.bel
          have hgc := HC.out.gcN
          have e2 := HC.out.c2
          clear HC HS hlt
          go_wp2
          go_ret
          exact ⟨⟨gc, rfl, hgc, HF.out⟩, HB.out⟩
end Go.Proofs.YtlnbghhhifnbdaaDoor

/- Own again: what it answers, with the new rows as rows of its own. Conditions: the lists read as the given ones, and have at most a million entries. -/
namespace Go.Proofs.YtlnbghhhifnbdaaDoor
open Go.RowKit Go.Proofs.YtlnbghhhifnbdaaDoorW.PrintWords Go.Proofs.YtlnbghhhifnbdaaDoor.PIrTexts
set_option linter.unusedVariables false
set_option linter.unusedSimpArgs false

/-- Own's answer: the given block in its cells, the new one, and the new rows. -/
def OwnR (w w' : World) (a0 a1 a2 : Value) (last : Int) (ops : List S41) (exits : List S54) : Prop :=
  ∃ v1 v2, OwnSt w w' a0 a1 a2 last v1 v2 ∧ Kd.R k41 41 w' w.heap.size (fun _ => True) v1 ops ∧ Kd.R k54 54 w' w.heap.size (fun _ => True) v2 exits
theorem OwnR.block {w w' : World} {A0 : Option Addr} {n0 c0 : Nat} {a1 a2 : Value} {last : Int} {ops : List S41} {exits : List S54} {pcs : List Int} (h : OwnR w w' (.slice A0 n0 c0) a1 a2 last ops exits) (h0 : pcs.length = n0) (hC : (Kd.int .u32).C w A0 n0 pcs) : BlockAt w' (w.heap.size + 1) ⟨pcs, ops, exits, last⟩ ∧ Below w.heap.size w w' := by
  subst h0
  obtain ⟨v1, v2, HS, h1, h2⟩ := h
  obtain ⟨P1, C1, rfl, -, hc1⟩ := Kd.R_reads h1
  obtain ⟨P2, C2, rfl, -, hc2⟩ := Kd.R_reads h2
  exact ⟨⟨⟨A0, c0, by rw [blk_cell HS.b1]; rfl, Kd.C_below hC HS.bel⟩, ⟨P1, C1, HS.d1, hc1⟩, ⟨P2, C2, HS.d2, hc2⟩, by rw [blk_cell HS.b1]; rfl⟩, HS.bel⟩
set_option maxHeartbeats 8000000 in
theorem own_r (A0 A1 A2 : Option Addr) (n0 n1 n2 c0 c1 c2 : Nat) (last : Int) (pcs : List Int) (ops : List S38) (exits : List S59) (h0 : pcs.length = n0) (h1 : ops.length = n1) (h2 : exits.length = n2) (hl1 : ops.length ≤ 1000000) (hl2 : exits.length ≤ 1000000) (hM : ∀ x ∈ exits, x.f4.length ≤ 1000000) (w : World)
    (hC0 : (Kd.int .u32).C w A0 n0 pcs) (hC1 : k38.C w A1 n1 ops) (hC2 : k59.C w A2 n2 exits) :
    Calls Tryd.prog 10 #[.agg #[.slice A0 n0 c0, .slice A1 n1 c1, .slice A2 n2 c2, .int .i64 last]] w fun e w' => e = .returned (.pointer (some ⟨w.heap.size + 1, 0, none⟩)) ∧ OwnR w w' (.slice A0 n0 c0) (.slice A1 n1 c1) (.slice A2 n2 c2) last (ops.map opOf) (exits.map exitOf) := by
  subst h0 h1 h2
  have HC0 := Lib.hid hC0
  have HC1 := Lib.hid hC1
  have HC2 := Lib.hid hC2
  have HMM := Lib.hid hM
  clear hC0 hC1 hC2 hM
  go_enter Tryd.func10, Tryd.ntmps10
  go_wp2
  go_loopw [4] (fun i wr => ∃ k : Nat, k ≤ ops.length ∧ i = .int .i64 k ∧ ∃ v1, Hid (OwnSt w wr (.slice A0 pcs.length c0) (.slice A1 ops.length c1) (.slice A2 exits.length c2) last v1 (.slice none 0 0)) ∧ Hid (Kd.R k41 41 wr w.heap.size (fun _ => True) v1 ((ops.map opOf).take k))) (fun i _ => ops.length - (intOf i).toNat)
  case atStart =>
    refine ⟨0, Nat.zero_le _, rfl, .slice none 0 0, Lib.hid ⟨?_, ?_, ?_⟩, Lib.hid (Kd.R_nil _ _ _ _ _)⟩
    · exact blk_alloc (blk_new _ _) _
    · simpa using blk_new (w.alloc _) _
    · exact bal (bal (Below.refl _ _) _) _
  case round =>
    obtain ⟨k, hk, rfl, v1, HS, HR⟩ := hrel
    have e1 := HS.out.c1
    have e2 := HS.out.d1
    have e3 := HS.out.f1 1
    have hlt0 := HS.out.lt
    have hn0 : ¬ w.heap.size = wr.heap.size := by omega
    have hn1 : ¬ w.heap.size + 1 = wr.heap.size := by omega
    by_cases hlt : k < ops.length
    · obtain ⟨ad, rfl, d0, d1, d2, d3, d4, d5⟩ := at_T38 (Kd.C_below HC1.out HS.out.bel) (k : Int) (by omega) (by omega)
      have hq : rd_T38 ops (k : Int) = ops[k] := by simp [rd_T38, hlt]
      have HT := Lib.hid (take_map opOf ops k hlt)
      rw [← hq] at HT
      simp only [Int.toNat_natCast] at d0 d1 d2 d3 d4 d5
      clear hq
      generalize rd_T38 ops (k : Int) = q at *
      have HLEN := Lib.hid (show ((ops.map opOf).take k ++ [opOf q]).length = k + 1 by simp; omega)
      go_wp2
      have HS' := Lib.hid (HS.out.below (bdn (Below.refl _ _) 1))
      have HR' := Lib.hid (Kd.R_drew HR.out)
      go_region_law (refine Kd.R_append_step k41 (w0 := w) w.heap.size rfl (.tmp 26) (.tmp 32) 48 41 (.agg #[.int .i64 0, .int .i64 0, .int .i64 0, .int .u32 0, .int .i64 0, .int .i64 0]) 48 rfl Tryd.underlying48 infoOp rfl (by decide) (by decide) v1 ((ops.map opOf).take k) (opOf q) [.int .i64 q.f0, .int .i64 q.f1, .int .i64 q.f2, .int .u32 q.f3, .int .i64 q.f4, .int .i64 q.f5] (fun _ => True) (fun _ => False) rfl rfl (k41_mkM _ _ _ _) (fun _ hk => hk.elim) (fun _ _ => trivial) HR'.out HS'.out.bel HS'.out.bel.size (by simp; omega) ?_; intro v3 w3 ho3 hb3 hg3 hat3; have HS3 := Lib.hid (HS'.out.grown hg3 (HS'.out.row HR'.out (by decide) (by decide))); obtain ⟨A3, c3, hv3⟩ := Kd.R_slice ho3; rw [HLEN.out] at hv3; subst hv3; have HR3 := Lib.hid ho3; have e5 := HS3.out.d1; have e6 := HS3.out.f1 1; clear ho3 hb3 hg3 hat3)
      all_goals
        go_wp2
        go_roundw
        case rel => exact ⟨k + 1, by omega, by go_num, _, Lib.hid (HS3.out.set1 _), Lib.hid (by rw [HT.out]; exact Kd.R_set HR3.out HS3.out.b1 (by decide) 1 _)⟩
        case measure => simp [intOf]; omega
    · have hke : ops.length = k := by omega
      have hR := HR.out
      rw [← hke, show ops.length = (ops.map opOf).length by simp, List.take_length] at hR
      have HR1 := Lib.hid hR
      have e4 := HS.out.c2
      clear hR HR e2 e3
      go_wp2
      go_loopw [5] (fun i wr2 => ∃ k : Nat, k ≤ exits.length ∧ i = .int .i64 k ∧ ∃ v2, Hid (OwnSt w wr2 (.slice A0 pcs.length c0) (.slice A1 ops.length c1) (.slice A2 exits.length c2) last v1 v2) ∧ Hid (Kd.R k41 41 wr2 w.heap.size (fun _ => True) v1 (ops.map opOf)) ∧ Hid (Kd.R k54 54 wr2 w.heap.size (fun _ => True) v2 ((exits.map exitOf).take k))) (fun i _ => exits.length - (intOf i).toNat)
      case atStart => exact ⟨0, Nat.zero_le _, rfl, .slice none 0 0, HS, HR1, Lib.hid (Kd.R_nil _ _ _ _ _)⟩
      case round =>
        clear HS HR1 e1 e4 hlt0 hn0 hn1 hlt hk hke
        obtain ⟨k, hk, rfl, v2, HS, HR1, HR2⟩ := hrel
        obtain ⟨wm, hwm⟩ : ∃ wm, wm = wr := ⟨_, rfl⟩
        subst hwm
        have e4 := HS.out.c2
        by_cases hlt : k < exits.length
        · obtain ⟨ad, A4, c4, rfl, d0, d1, d2, d3, d4, l4, k4⟩ := at_T59 (Kd.C_below HC2.out HS.out.bel) (k : Int) (by omega) (by omega)
          have hq : rd_T59 exits (k : Int) = exits[k] := by simp [rd_T59, hlt]
          have HT := Lib.hid (take_map exitOf exits k hlt)
          have hm := HMM.out exits[k] (List.getElem_mem hlt)
          rw [← hq] at HT hm
          simp only [Int.toNat_natCast] at d0 d1 d2 d3 d4
          have HK4 := Lib.hid k4
          clear hq k4
          generalize rd_T59 exits (k : Int) = q at *
          go_wp2
          go_loopw [8] (fun i wr3 => ∃ j : Nat, j ≤ q.f4.length ∧ i = .int .i64 j ∧ ∃ vm, Hid (OwnMp wm wr3 q (.slice A4 q.f4.length c4) vm) ∧ Hid (Kd.R k56 56 wr3 wm.heap.size (fun _ => True) vm ((q.f4.map valOf).take j))) (fun i _ => q.f4.length - (intOf i).toNat)
          case atStart =>
            refine ⟨0, Nat.zero_le _, rfl, .slice none 0 0, Lib.hid ⟨?_, ?_, ?_⟩, Lib.hid (Kd.R_nil _ _ _ _ _)⟩
            · exact blk_alloc (blk_new _ _) _
            · simpa using blk_new (wm.alloc _) _
            · exact bal (bal (Below.refl _ _) _) _
          case round =>
            obtain ⟨j, hj, rfl, vm, HP, HRm⟩ := hrel
            have g0 := HP.out.c4
            have hl0 := HP.out.lt
            have hl1' := HS.out.lt
            have hn0 : ¬ wm.heap.size = wr.heap.size := by omega
            have hn1 : ¬ wm.heap.size + 1 = wr.heap.size := by omega
            have hn2 : ¬ w.heap.size + 1 = wr.heap.size := by omega
            have hl3 : w.heap.size + 1 < wr.heap.size := by omega
            by_cases hlt2 : j < q.f4.length
            · have g1 := HP.out.d4
              have g2 := HP.out.f4 4
              obtain ⟨ad2, rfl, x0, x1⟩ := at_T62 (Kd.C_below HK4.out HP.out.bel) (j : Int) (by omega) (by omega)
              have hq : rd_T62 q.f4 (j : Int) = q.f4[j] := by simp [rd_T62, hlt2]
              have HT2 := Lib.hid (take_map valOf q.f4 j hlt2)
              rw [← hq] at HT2
              simp only [Int.toNat_natCast] at x0 x1
              clear hq
              generalize rd_T62 q.f4 (j : Int) = y at *
              have HLEN := Lib.hid (show ((q.f4.map valOf).take j ++ [valOf y]).length = j + 1 by simp; omega)
              go_wp2
              have HP' := Lib.hid (HP.out.below (bdn (Below.refl _ _) 1))
              have HR' := Lib.hid (Kd.R_drew HRm.out)
              go_region_law (refine Kd.R_append_step k56 (w0 := wm) wm.heap.size rfl (.tmp 65) (.tmp 71) 52 56 (.agg #[.int .i64 0, .int .i64 0]) 16 rfl Tryd.underlying52 infoVal rfl (by decide) (by decide) vm ((q.f4.map valOf).take j) (valOf y) [.int .i64 y.f0, .int .i64 y.f1] (fun _ => True) (fun _ => False) rfl rfl (k56_mkM _ _ _ _) (fun _ hk => hk.elim) (fun _ _ => trivial) HR'.out HP'.out.bel HP'.out.bel.size (by simp; omega) ?_; intro v3 w3 ho3 hb3 hg3 hat3; have HP3 := Lib.hid (HP'.out.grown hg3 (HP'.out.row HR'.out (by decide) (by decide))); obtain ⟨A3, c3, hv3⟩ := Kd.R_slice ho3; rw [HLEN.out] at hv3; subst hv3; have HR3 := Lib.hid ho3; have e5 := HP3.out.d4; have e6 := HP3.out.f4 4; clear ho3 hb3 hg3 hat3)
              all_goals
                go_wp2
                go_roundw
                case rel => exact ⟨j + 1, by omega, by go_num, _, Lib.hid (HP3.out.set4 _), Lib.hid (by rw [HT2.out]; exact Kd.R_set HR3.out HP3.out.b1 (by decide) 4 _)⟩
                case measure => simp [intOf]; omega
            · have hje : q.f4.length = j := by omega
              have hRm := HRm.out
              rw [← hje, show q.f4.length = (q.f4.map valOf).length by simp, List.take_length] at hRm
              have hokp : Kd.R k56 56 wr w.heap.size (fun k => wm.heap.size ≤ k) vm (q.f4.map valOf) := Kd.R_mono (Kd.R_lower (Kd.R_bound hRm) HS.out.bel.size) (fun k hk => hk.2.1)
              obtain ⟨Am, cm, hvm⟩ := Kd.R_slice hRm
              rw [List.length_map] at hvm
              subst hvm
              have HRm1 := Lib.hid (Kd.R_drew hokp)
              have HS' := Lib.hid ((HS.out.below HP.out.bel).below (bdn (Below.refl _ _) 1))
              have HR1' := Lib.hid (Kd.R_drew (Kd.R_below HR1.out HP.out.bel))
              have HR2' := Lib.hid (Kd.R_drew (Kd.R_below HR2.out HP.out.bel))
              have HLT2 := Lib.hid (fun k hk => Kd.R_lt HR2.out k hk)
              have HLEN := Lib.hid (show ((exits.map exitOf).take k ++ [exitOf q]).length = k + 1 by simp; omega)
              have i0 := HP.out.d0
              have i1 := HP.out.d1
              have i2 := HP.out.d2
              have i3 := HP.out.d3
              have i4 := HP.out.d4
              have i5 := (HS.out.below HP.out.bel).d2
              have i6 := (HS.out.below HP.out.bel).f1 2
              clear hje hRm hokp HRm e4 d0 d1 d2 d3 d4
              go_wp2
              go_region_law (refine Kd.R_append_step k54 (w0 := w) w.heap.size rfl (.tmp 78) (.tmp 80) 49 54 (.agg #[.int .i64 0, .int .u32 0, .int .i64 0, .int .i64 0, .slice none 0 0]) 56 rfl Tryd.underlying49 infoExit rfl (by decide) (by decide) v2 ((exits.map exitOf).take k) (exitOf q) [.int .i64 q.f0, .int .u32 q.f1, .int .i64 q.f2, .int .i64 q.f3, .slice Am q.f4.length cm] (fun _ => True) (fun k => wm.heap.size ≤ k) rfl rfl (k54_mkM _ _ _ _ HRm1.out) (fun k hk => ⟨trivial, fun e => by have := HLT2.out k e.symm; omega⟩) (fun _ _ => trivial) HR2'.out HS'.out.bel HS'.out.bel.size (by simp; omega) ?_; intro v3 w3 ho3 hb3 hg3 hat3; have HS3 := Lib.hid (HS'.out.grown hg3 (HS'.out.row HR2'.out (by decide) (by decide))); have HR13 := Lib.hid (Kd.R_over HR1'.out HR2'.out (by decide) hg3); obtain ⟨A3, c3, hv3⟩ := Kd.R_slice ho3; rw [HLEN.out] at hv3; subst hv3; have HR3 := Lib.hid ho3; have e5 := HS3.out.d2; have e6 := HS3.out.f1 2; clear ho3 hb3 hg3 hat3)
              all_goals
                go_wp2
                go_roundw
                case rel => exact ⟨k + 1, by omega, by go_num, _, Lib.hid (HS3.out.set2 _), Lib.hid (Kd.R_set HR13.out HS3.out.b1 (by decide) 2 _), Lib.hid (by rw [HT.out]; exact Kd.R_set HR3.out HS3.out.b1 (by decide) 2 _)⟩
                case measure => simp [intOf]; omega
        · have hke : exits.length = k := by omega
          have hR := HR2.out
          rw [← hke, show exits.length = (exits.map exitOf).length by simp, List.take_length] at hR
          have HR2' := Lib.hid hR
          clear hR
          go_wp2
          go_ret
          exact ⟨rfl, _, _, HS.out, HR1.out, HR2'.out⟩
end Go.Proofs.YtlnbghhhifnbdaaDoor

/- Worlds alike but for whole numbers in some blocks; what Own makes is made of such cells; and when the program's two Same and the document's answer alike. Conditions: the rows are Own's. -/
namespace Go.Proofs.YtlnbghhhifnbdaaDoor
open Go.RowKit Go.Proofs.YtlnbghhhifnbdaaDoorW.PrintWords Go.Proofs.YtlnbghhhifnbdaaDoorW.PrintLast Go.Proofs.YtlnbghhhifnbdaaDoorW.PrintMore Go.Proofs.YtlnbghhhifnbdaaDoor.PIrTexts
set_option linter.unusedVariables false
set_option linter.unusedSimpArgs false

/-- Alike but for numbers in the blocks from N0 on, ahead of N1. -/
structure Like (N0 N1 : Nat) (w wr : World) : Prop where
  size : wr.heap.size = w.heap.size
  far : ∀ k, (k < N0 ∨ N1 ≤ k) → wr.heap[k]? = w.heap[k]?
  int : ∀ g i v, w.cell? ⟨g, i, none⟩ = some (.int .i64 v) → ∃ v', wr.cell? ⟨g, i, none⟩ = some (.int .i64 v')
  row : ∀ g i A n c, w.cell? ⟨g, i, none⟩ = some (.slice A n c) → wr.cell? ⟨g, i, none⟩ = some (.slice A n c)
  fz : ∀ a, wr.frozen? a = w.frozen? a
  bel : Below N0 w wr
theorem Like.refl (N0 N1 : Nat) (w : World) : Like N0 N1 w w := ⟨rfl, fun _ _ => rfl, fun _ _ v h => ⟨v, h⟩, fun _ _ _ _ _ h => h, fun _ => rfl, Below.refl _ _⟩
theorem cell_set (w : World) (g j : Nat) (u : Value) (g' i : Nat) (v : Value) (h : w.cell? ⟨g', i, none⟩ = some v) : (w.setCell ⟨g, j, none⟩ u).cell? ⟨g', i, none⟩ = some (if g' = g ∧ i = j then u else v) := by
  by_cases hg : g' = g
  · subst hg
    simp only [World.cell?, World.setCell, Array.getElem?_modify, if_pos rfl] at h ⊢
    cases hw : w.heap[g']? with
    | none => rw [hw] at h; cases h
    | some o =>
      rw [hw] at h
      cases o <;> simp_all
      rename_i cs _ _
      have hlt := (Array.getElem?_eq_some_iff.1 h).1
      by_cases hi : i = j
      · subst hi
        simp [hlt]
      · rw [if_neg hi, Array.getElem?_setIfInBounds_ne (by omega)]
        exact h
  · rw [if_neg (fun h => hg h.1), World.cell?_setCell_far _ _ _ _ (fun e => hg e.symm)]
    exact h
theorem Like.set {N0 N1 : Nat} {w wr : World} (h : Like N0 N1 w wr) {g j : Nat} {v0 : Int} (hc : wr.cell? ⟨g, j, none⟩ = some (.int .i64 v0)) (h0 : N0 ≤ g) (h1 : g < N1) (v : Int) : Like N0 N1 w (wr.setCell ⟨g, j, none⟩ (.int .i64 v)) := by
  refine ⟨by simpa [World.setCell] using h.size, fun k hk => ?_, fun g' i x hx => ?_, fun g' i A n c hx => ?_, fun a => (World.frozen?_setCell _ _ _ _).trans (h.fz a), h.bel.setCell h0 _⟩
  · exact (Below.heap_setCell wr ⟨g, j, none⟩ _ k (by show k ≠ g; omega)).trans (h.far k hk)
  · obtain ⟨v', hv⟩ := h.int g' i x hx
    by_cases hq : g' = g ∧ i = j
    · exact ⟨v, by rw [cell_set _ _ _ _ _ _ _ hv, if_pos hq]⟩
    · exact ⟨v', by rw [cell_set _ _ _ _ _ _ _ hv, if_neg hq]⟩
  · have hv := h.row g' i A n c hx
    rw [cell_set _ _ _ _ _ _ _ hv, if_neg]
    rintro ⟨rfl, rfl⟩
    rw [hv] at hc
    cases hc
/-- A row of numbers that may be written. -/
def IntsAt (N0 N1 : Nat) (w : World) (A : Option Addr) (n sz f : Nat) : Prop := ∀ i, i < n → ∃ g v, A = some ⟨g, 0, none⟩ ∧ N0 ≤ g ∧ g < N1 ∧ w.cell? ⟨g, i * sz + f, none⟩ = some (.int .i64 v) ∧ w.frozen? ⟨g, i * sz + f, none⟩ = false
theorem lt_of_cell {w : World} {g i : Nat} {v : Value} (h : w.cell? ⟨g, i, none⟩ = some v) : g < w.heap.size := World.block_lt_of_cell? w ⟨g, i, none⟩ h
theorem IntsAt.below {N0 N1 : Nat} {w w1 : World} {A : Option Addr} {n sz f : Nat} (h : IntsAt N0 N1 w A n sz f) (hb : Below w.heap.size w w1) : IntsAt N0 N1 w1 A n sz f := fun i hi => by
  obtain ⟨g, v, a, b, c, d, e⟩ := h i hi
  exact ⟨g, v, a, b, c, cellk hb d, (hb.frozen (p := ⟨g, i * sz + f, none⟩) (lt_of_cell d)).trans e⟩
/-- What Own has made. -/
structure Shape (N0 N1 n1 n2 : Nat) (w : World) : Prop where
  x1 : ∃ A c, w.cell? ⟨N0 + 1, 1, none⟩ = some (.slice A n1 c) ∧ IntsAt N0 N1 w A n1 6 1
  x2 : ∃ A c, w.cell? ⟨N0 + 1, 2, none⟩ = some (.slice A n2 c) ∧ IntsAt N0 N1 w A n2 5 0 ∧ ∀ i, i < n2 → ∃ g A4 n4 c4, A = some ⟨g, 0, none⟩ ∧ w.cell? ⟨g, i * 5 + 4, none⟩ = some (.slice A4 n4 c4) ∧ n4 ≤ 1000000 ∧ IntsAt N0 N1 w A4 n4 2 1
theorem Shape.below {N0 N1 n1 n2 : Nat} {w w1 : World} (h : Shape N0 N1 n1 n2 w) (hb : Below w.heap.size w w1) : Shape N0 N1 n1 n2 w1 := by
  obtain ⟨⟨A, c, h1, h2⟩, ⟨A2, c2, h3, h4, h5⟩⟩ := h
  refine ⟨⟨A, c, cellk hb h1, h2.below hb⟩, ⟨A2, c2, cellk hb h3, h4.below hb, fun i hi => ?_⟩⟩
  obtain ⟨g, A4, n4, c4, a, b, d, e⟩ := h5 i hi
  exact ⟨g, A4, n4, c4, a, cellk hb b, d, e.below hb⟩
theorem R_ints {α : Type} {d : Kd α} {e : Nat} {w : World} {base : Nat} {ok : Nat → Prop} {v : Value} {xs : List α} (h : d.R e w base ok v xs) : ∃ A c, v = .slice A xs.length c ∧ ∀ i (hi : i < xs.length), ∃ g cs ok', A = some ⟨g, 0, none⟩ ∧ base ≤ g ∧ g < w.heap.size ∧ d.M w base ok' xs[i] cs ∧ (∀ j u, cs[j]? = some u → w.cell? ⟨g, i * d.sz + j, none⟩ = some u) ∧ ∀ j, w.frozen? ⟨g, j, none⟩ = false := by
  obtain ⟨A, c, hv, -, hr⟩ := OwnRow.reads h.2
  refine ⟨A, c, hv, fun i hi => ?_⟩
  obtain ⟨g, cap, hv2, hb, hlt, cells, hc⟩ := Kd.R_form h (by omega)
  rw [hv] at hv2
  cases hv2
  obtain ⟨ad, had, hall⟩ := hr.2.2 (by omega)
  cases had
  obtain ⟨cs, -, hM, hce⟩ := hall i _ (List.getElem?_eq_getElem hi)
  refine ⟨g, cs, _, rfl, hb, hlt, hM, fun j u hj => ?_, fun j => blk_frozen hc j⟩
  have := hce j u hj
  rw [add_plain] at this
  exact this
theorem OwnR.shape {w w' : World} {a0 a1 a2 : Value} {last : Int} {ops : List S41} {exits : List S54} (h : OwnR w w' a0 a1 a2 last ops exits) (hM : ∀ x ∈ exits, x.f4.length ≤ 1000000) : Shape w.heap.size w'.heap.size ops.length exits.length w' := by
  obtain ⟨v1, v2, HS, h1, h2⟩ := h
  obtain ⟨A1, c1, rfl, r1⟩ := R_ints h1
  obtain ⟨A2, c2, rfl, r2⟩ := R_ints h2
  refine ⟨⟨A1, c1, HS.d1, fun i hi => ?_⟩, ⟨A2, c2, HS.d2, fun i hi => ?_, fun i hi => ?_⟩⟩
  · obtain ⟨g, cs, ok', rfl, hb, hlt, hm, hc, hf⟩ := r1 i hi
    obtain rfl := k41_openM hm
    exact ⟨g, _, rfl, hb, hlt, hc 1 _ rfl, hf _⟩
  · obtain ⟨g, cs, ok', rfl, hb, hlt, hm, hc, hf⟩ := r2 i hi
    obtain ⟨v4, rfl, hr4⟩ := k54_openM hm
    exact ⟨g, _, rfl, hb, hlt, hc 0 _ rfl, hf _⟩
  · obtain ⟨g, cs, ok', rfl, hb, hlt, hm, hc, hf⟩ := r2 i hi
    obtain ⟨v4, rfl, hr4⟩ := k54_openM hm
    obtain ⟨A4, c4, rfl, r4⟩ := R_ints hr4
    refine ⟨g, A4, _, c4, rfl, hc 4 _ rfl, hM _ (List.getElem_mem hi), fun k hk => ?_⟩
    obtain ⟨g4, cs, ok', rfl, hb, hlt, hm, hc, hf⟩ := r4 k hk
    obtain rfl := k56_openM hm
    exact ⟨g4, _, rfl, hb, hlt, hc 1 _ rfl, hf _⟩
end Go.Proofs.YtlnbghhhifnbdaaDoor

/- The walk of the law IrClones: it returns true. Conditions: the lists read as the given ones; the listed variable holds what the program's text lays in it. -/
namespace Go.Proofs.YtlnbghhhifnbdaaDoor
open Go.RowKit Go.Proofs.YtlnbghhhifnbdaaDoorW.PrintWords Go.Proofs.YtlnbghhhifnbdaaDoorW.PrintLast Go.Proofs.YtlnbghhhifnbdaaDoorW.PrintMore Go.Proofs.YtlnbghhhifnbdaaDoor.PIrTexts
set_option linter.unusedVariables false
set_option linter.unusedSimpArgs false

theorem opBk_of (l : List S38) : (l.map opOf).map opBk = l := by
  rw [List.map_map]
  exact List.map_id'' (fun x => rfl) l
theorem valBk_of (l : List S62) : (l.map valOf).map valBk = l := by
  rw [List.map_map]
  exact List.map_id'' (fun x => rfl) l
theorem exitBk_of (l : List S59) : (l.map exitOf).map exitBk = l := by
  rw [List.map_map]
  refine List.map_id'' (fun x => ?_) l
  show exitBk (exitOf x) = x
  cases x
  simp only [exitBk, exitOf, valBk_of]
theorem same_iff (pa pb : List Int) (oa ob : List S38) (ea eb : List S59) (la lb : Int) : SameB (blkOf pa oa ea la) (blkOf pb ob eb lb) ↔ (la = lb ∧ pa = pb ∧ oa = ob ∧ ea = eb) := by
  constructor
  · rintro ⟨h0, h1, h2, h3⟩
    have h2' : (oa.map opOf) = ob.map opOf := h2
    have h3' : (ea.map exitOf) = eb.map exitOf := h3
    refine ⟨h0, h1, ?_, ?_⟩
    · have := congrArg (List.map opBk) h2'
      rwa [opBk_of, opBk_of] at this
    · have := congrArg (List.map exitBk) h3'
      rwa [exitBk_of, exitBk_of] at this
  · rintro ⟨rfl, rfl, rfl, rfl⟩
    exact ⟨rfl, rfl, rfl, rfl⟩
theorem decG_iff {G H : Prop} (h : G ↔ H) : decG G = decG H := by
  by_cases g : G
  · rw [decG_yes g, decG_yes (h.1 g)]
  · rw [decG_no g, decG_no fun q => g (h.2 q)]
/-- A block of the document's as a value. -/
def AggB (lp lo le : Nat) (pcs : List Int) (ops : List S38) (exits : List S59) (last : Int) (v : Value) (w : World) : Prop :=
  ∃ A0 A1 A2 c0 c1 c2, v = .agg #[.slice A0 lp c0, .slice A1 lo c1, .slice A2 le c2, .int .i64 last] ∧ Hid ((Kd.int .u32).C w A0 lp pcs ∧ k38.C w A1 lo ops ∧ k59.C w A2 le exits)
theorem AggB.keep {lp lo le : Nat} {pcs : List Int} {ops : List S38} {exits : List S59} {last : Int} (v : Value) (w1 w2 : World) (h : AggB lp lo le pcs ops exits last v w1) (hb : Below w1.heap.size w1 w2) : AggB lp lo le pcs ops exits last v w2 := by
  obtain ⟨A0, A1, A2, c0, c1, c2, hv, hk⟩ := h
  exact ⟨A0, A1, A2, c0, c1, c2, hv, Lib.hid ⟨Kd.C_below hk.out.1 hb, Kd.C_below hk.out.2.1 hb, Kd.C_below hk.out.2.2 hb⟩⟩
theorem small_of (pcs : List Int) (ops : List S38) (exits : List S59) (last : Int) (hL : lightB pcs ops exits = true) : SmallB (blkOf pcs ops exits last) := by
  obtain ⟨a, b, c, d, e⟩ := light_maps pcs ops exits hL
  refine ⟨by show pcs.length ≤ _; omega, by show (ops.map opOf).length ≤ _; rw [List.length_map]; omega, by show (exits.map exitOf).length ≤ _; rw [List.length_map]; omega, fun x hx => ?_⟩
  obtain ⟨y, hy, rfl⟩ := List.mem_map.1 (show x ∈ exits.map exitOf from hx)
  show (y.f4.map valOf).length ≤ _
  rw [List.length_map]
  have := d y hy
  omega
theorem back_a (pcs : List Int) (ops : List S38) (exits : List S59) (last : Int) (hL : lightB pcs ops exits = true) (g : Nat) (w : World) (hB : BlockAt w g (blkOf pcs ops exits last)) :
    Calls Tryd.prog 20 #[.pointer (some ⟨g, 0, none⟩)] w fun e w' => (∃ v, e = .returned v ∧ AggB pcs.length ops.length exits.length pcs ops exits last v w') ∧ Below w.heap.size w w' := by
  have s := small_of pcs ops exits last hL
  refine (back_c _ g w hB s.m s.o s.e).mono ?_
  rintro e w' ⟨⟨A0, A1, A2, c0, c1, c2, rfl, h0, h1, h2, -, -⟩, hb⟩
  have e1 : (blkOf pcs ops exits last).ops.length = ops.length := List.length_map _
  have e2 : (blkOf pcs ops exits last).exits.length = exits.length := List.length_map _
  rw [show (blkOf pcs ops exits last).ops.map opBk = ops from opBk_of ops] at h1
  rw [show (blkOf pcs ops exits last).exits.map exitBk = exits from exitBk_of exits] at h2
  rw [e1] at h1
  rw [e2] at h2
  exact ⟨⟨_, rfl, A0, A1, A2, c0, c1, c2, by rw [e1, e2]; rfl, Lib.hid ⟨h0, h1, h2⟩⟩, hb⟩
theorem rsame_a (A0 A1 A2 D0 D1 D2 : Option Addr) (c0 c1 c2 d0 d1 d2 : Nat) (last : Int) (pcs : List Int) (ops : List S38) (exits : List S59) (hL : lightB pcs ops exits = true) (w : World)
    (hk : Hid ((Kd.int .u32).C w D0 pcs.length pcs ∧ k38.C w D1 ops.length ops ∧ k59.C w D2 exits.length exits)) (h : ArgB w A0 A1 A2 c0 c1 c2 pcs ops exits) :
    Calls Tryd.prog 19 #[.agg #[.slice D0 pcs.length d0, .slice D1 ops.length d1, .slice D2 exits.length d2, .int .i64 last], .agg #[.slice A0 pcs.length c0, .slice A1 ops.length c1, .slice A2 exits.length c2, .int .i64 last]] w fun e w' => e = .returned (.bool true) ∧ Below w.heap.size w w' := by
  obtain ⟨a, b, c, d, -⟩ := light_maps pcs ops exits hL
  have dm : ∀ x ∈ exits, x.f4.length ≤ 1000000 := fun x hx => by have := d x hx; omega
  refine (rsame_c D0 D1 D2 A0 A1 A2 d0 d1 d2 c0 c1 c2 last last pcs pcs ops ops exits exits (by omega) (by omega) (by omega) dm dm w hk.out.1 hk.out.2.1 hk.out.2.2 h.C0 h.C1 h.C2).mono ?_
  rintro e w' ⟨hr, hb⟩
  refine ⟨?_, hb⟩
  rw [SameR.dec hr, decG_yes ⟨rfl, rfl, rfl, rfl⟩]
theorem rsame_b (A0 A1 A2 D0 D1 D2 : Option Addr) (c0 c1 c2 d0 d1 d2 : Nat) (last lastb : Int) (pcs pcsb : List Int) (ops opsb : List S38) (exits exitsb : List S59) (hL : lightB pcs ops exits = true) (hLb : lightB pcsb opsb exitsb = true) (w : World)
    (h : ArgB w A0 A1 A2 c0 c1 c2 pcs ops exits) (hb : ArgB w D0 D1 D2 d0 d1 d2 pcsb opsb exitsb) :
    Calls Tryd.prog 19 #[.agg #[.slice A0 pcs.length c0, .slice A1 ops.length c1, .slice A2 exits.length c2, .int .i64 last], .agg #[.slice D0 pcsb.length d0, .slice D1 opsb.length d1, .slice D2 exitsb.length d2, .int .i64 lastb]] w fun e w' => e = .returned (.bool (decG (SameB (blkOf pcs ops exits last) (blkOf pcsb opsb exitsb lastb)))) ∧ Below w.heap.size w w' := by
  obtain ⟨a, b, c, d, -⟩ := light_maps pcs ops exits hL
  obtain ⟨-, -, -, d', -⟩ := light_maps pcsb opsb exitsb hLb
  have dm : ∀ x ∈ exits, x.f4.length ≤ 1000000 := fun x hx => by have := d x hx; omega
  have dm' : ∀ x ∈ exitsb, x.f4.length ≤ 1000000 := fun x hx => by have := d' x hx; omega
  refine (rsame_c A0 A1 A2 D0 D1 D2 c0 c1 c2 d0 d1 d2 last lastb pcs pcsb ops opsb exits exitsb (by omega) (by omega) (by omega) dm dm' w h.C0 h.C1 h.C2 hb.C0 hb.C1 hb.C2).mono ?_
  rintro e w' ⟨hr, hb⟩
  refine ⟨?_, hb⟩
  rw [SameR.dec hr, decG_iff (same_iff _ _ _ _ _ _ _ _)]
theorem own_w (A0 A1 A2 : Option Addr) (c0 c1 c2 : Nat) (last : Int) (pcs : List Int) (ops : List S38) (exits : List S59) (hL : lightB pcs ops exits = true) (w : World) (h : ArgB w A0 A1 A2 c0 c1 c2 pcs ops exits) :
    Calls Tryd.prog 10 #[.agg #[.slice A0 pcs.length c0, .slice A1 ops.length c1, .slice A2 exits.length c2, .int .i64 last]] w fun e w' => e = .returned (.pointer (some ⟨w.heap.size + 1, 0, none⟩)) ∧ (BlockAt w' (w.heap.size + 1) (blkOf pcs ops exits last) ∧ Shape w.heap.size w'.heap.size (ops.map opOf).length (exits.map exitOf).length w' ∧ w.heap.size + 1 < w'.heap.size) ∧ Below w.heap.size w w' := by
  obtain ⟨a, b, c, d, -⟩ := light_maps pcs ops exits hL
  refine (own_r A0 A1 A2 _ _ _ c0 c1 c2 last pcs ops exits rfl rfl rfl (by omega) (by omega) (fun x hx => by have := d x hx; omega) w h.C0 h.C1 h.C2).mono ?_
  rintro e w' ⟨rfl, ho⟩
  have hb := ho.block rfl h.C0
  obtain ⟨v1, v2, HS, h1, h2⟩ := id ho
  exact ⟨rfl, ⟨hb.1, ho.shape (small_of pcs ops exits last hL).m, HS.lt⟩, hb.2⟩
end Go.Proofs.YtlnbghhhifnbdaaDoor

/- The walk of the law IrClones: it returns true. Conditions: the lists read as the given ones; the listed variable holds what the program's text lays in it. -/
namespace Go.Proofs.YtlnbghhhifnbdaaDoor
open Go.RowKit Go.Proofs.YtlnbghhhifnbdaaDoorW.PrintWords Go.Proofs.YtlnbghhhifnbdaaDoorW.PrintLast Go.Proofs.YtlnbghhhifnbdaaDoorW.PrintMore Go.Proofs.YtlnbghhhifnbdaaDoor.PIrTexts
set_option linter.unusedVariables false
set_option linter.unusedSimpArgs false

set_option maxHeartbeats 8000000 in
set_option maxRecDepth 100000 in
theorem irclones_c (A0 A1 A2 D0 D1 D2 : Option Addr) (c0 c1 c2 d0 d1 d2 : Nat) (last lastb : Int) (pcs pcsb : List Int) (ops opsb : List S38) (exits exitsb : List S59) (w : World) (h : ArgB w A0 A1 A2 c0 c1 c2 pcs ops exits) (hb : ArgB w D0 D1 D2 d0 d1 d2 pcsb opsb exitsb) (hN : NamesIs w) :
    Calls Tryd.prog 6 #[.agg #[.slice A0 pcs.length c0, .slice A1 ops.length c1, .slice A2 exits.length c2, .int .i64 last], .agg #[.slice D0 pcsb.length d0, .slice D1 opsb.length d1, .slice D2 exitsb.length d2, .int .i64 lastb]] w fun e w' => e = .returned (.bool true) ∧ Below w.heap.size w w' := by
  have HLA := Lib.hid (fun v (hv : Below w.heap.size w v) => light_c A0 A1 A2 c0 c1 c2 last pcs ops exits v (h.below hv))
  have HLB := Lib.hid (fun v (hv : Below w.heap.size w v) => light_c D0 D1 D2 d0 d1 d2 lastb pcsb opsb exitsb v (hb.below hv))
  have HAW := Lib.hid (fun v (hb : Below w.heap.size w v) => awake23_c v (hN.below hb))
  rcases Bool.eq_false_or_eq_true (lightB pcs ops exits) with hL | hL
  case inr =>
    rw [hL] at HLA
    clear h hb hN hL
    go_enter Tryd.func6, Tryd.ntmps6
    go_wp2_with (first | (refine (HLA.out _ (bal (bal (Below.refl _ _) _) _)).mono ?_; rintro e w1 ⟨rfl, hb1⟩; have HB1 := Lib.hid (bthen (bal (bal (Below.refl w.heap.size w) _) _) hb1); clear hb1) | (refine (HAW.out _ HB1.out).mono ?_; rintro e w2 ⟨rfl, hb2⟩; have HB2 := Lib.hid (bthen HB1.out hb2); clear hb2))
    go_ret
    exact ⟨rfl, HB2.out⟩
  rcases Bool.eq_false_or_eq_true (lightB pcsb opsb exitsb) with hLb | hLb
  case inr =>
    rw [hL] at HLA
    rw [hLb] at HLB
    clear h hb hN hL hLb
    go_enter Tryd.func6, Tryd.ntmps6
    go_wp2_with fail
    refine (HLA.out _ (bal (bal (Below.refl _ _) _) _)).mono ?_
    rintro e w1 ⟨rfl, hb1⟩
    have f0 := cellk hb1 (a := ⟨w.heap.size + 1, 0, none⟩) (v := .slice D0 pcsb.length d0) (by simp [go_sem])
    have f1 := cellk hb1 (a := ⟨w.heap.size + 1, 1, none⟩) (v := .slice D1 opsb.length d1) (by simp [go_sem])
    have f2 := cellk hb1 (a := ⟨w.heap.size + 1, 2, none⟩) (v := .slice D2 exitsb.length d2) (by simp [go_sem])
    have f3 := cellk hb1 (a := ⟨w.heap.size + 1, 3, none⟩) (v := .int .i64 lastb) (by simp [go_sem])
    have HB1 := Lib.hid (bthen (bal (bal (Below.refl w.heap.size w) _) _) hb1)
    clear hb1
    go_wp2_with fail
    refine (HLB.out _ HB1.out).mono ?_
    rintro e w2 ⟨rfl, hb2⟩
    have HB2 := Lib.hid (bthen HB1.out hb2)
    clear hb2 f0 f1 f2 f3
    go_wp2_with fail
    refine (HAW.out _ HB2.out).mono ?_
    rintro e w3 ⟨rfl, hb3⟩
    have HB3 := Lib.hid (bthen HB2.out hb3)
    clear hb3
    go_wp2
    go_ret
    exact ⟨rfl, HB3.out⟩
  have HOWA := Lib.hid (fun v (hv : Below w.heap.size w v) => own_w A0 A1 A2 c0 c1 c2 last pcs ops exits hL v (h.below hv))
  have HOWB := Lib.hid (fun v (hv : Below w.heap.size w v) => own_a D0 D1 D2 d0 d1 d2 lastb pcsb opsb exitsb hLb v (hb.below hv))
  have HRC := Lib.hid (fun v (hv : Below w.heap.size w v) => rcheck_c A0 A1 A2 c0 c1 c2 last pcs ops exits hL v (h.below hv))
  have HSA := Lib.hid (fun D0 D1 D2 d0 d1 d2 v (hk : Hid ((Kd.int .u32).C v D0 pcs.length pcs ∧ k38.C v D1 ops.length ops ∧ k59.C v D2 exits.length exits)) (hv : Below w.heap.size w v) => rsame_a A0 A1 A2 D0 D1 D2 c0 c1 c2 d0 d1 d2 last pcs ops exits hL v hk (h.below hv))
  have HSB := Lib.hid (fun v (hv : Below w.heap.size w v) => rsame_b A0 A1 A2 D0 D1 D2 c0 c1 c2 d0 d1 d2 last lastb pcs pcsb ops opsb exits exitsb hL hLb v (h.below hv) (hb.below hv))
  have HBK := Lib.hid (fun g v (hB : BlockAt v g (blkOf pcs ops exits last)) => back_a pcs ops exits last hL g v hB)
  obtain ⟨m1, m2, m3, m4⟩ := blk_maps pcs ops exits last hL
  have HCK := Lib.hid (fun g v (hB : BlockAt v g (blkOf pcs ops exits last)) => check_c _ g v hB m1 m2 m3 m4)
  have sA := small_of pcs ops exits last hL
  have sB := small_of pcsb opsb exitsb lastb hLb
  have HCL := Lib.hid (fun g v (hB : BlockAt v g (blkOf pcs ops exits last)) => irclone_c _ g v hB sA)
  have HIS := Lib.hid (fun g g' v (hB : BlockAt v g (blkOf pcs ops exits last)) (hC : BlockAt v g' (blkOf pcsb opsb exitsb lastb)) => irsame_c _ _ g g' v hB hC sA sB)
  have HIC := Lib.hid (fun g g' v (hB : BlockAt v g (blkOf pcs ops exits last)) (hC : BlockAt v g' (blkOf pcs ops exits last)) => (irsame_c _ _ g g' v hB hC sA sA).mono fun e w' (q : e = .returned (.bool (decG (SameB (blkOf pcs ops exits last) (blkOf pcs ops exits last)))) ∧ Below v.heap.size v w') => (show e = .returned (.bool true) ∧ Below v.heap.size v w' from ⟨by rw [q.1, decG_yes ⟨rfl, rfl, rfl, rfl⟩], q.2⟩))
  rw [hL] at HLA
  rw [hLb] at HLB
  have hmo : (ops.map opOf).length ≤ 1000000 := sA.o
  have hme : (exits.map exitOf).length ≤ 1000000 := sA.e
  clear h hb hN hL hLb m1 m2 m3 m4 sA sB
  generalize hC : blkOf pcs ops exits last = B at *
  generalize blkOf pcsb opsb exitsb lastb = Bb at *
  generalize checkB B = ck at *
  generalize decG (SameB B Bb) = V at *
  generalize (ops.map opOf).length = mo at *
  generalize (exits.map exitOf).length = me at *
  clear hC
  go_enter Tryd.func6, Tryd.ntmps6
  go_wp2_with fail
  refine (HLA.out _ (bal (bal (Below.refl _ _) _) _)).mono ?_
  rintro e w1 ⟨rfl, hb1⟩
  have f0 := cellk hb1 (a := ⟨w.heap.size + 1, 0, none⟩) (v := .slice D0 pcsb.length d0) (by simp [go_sem])
  have f1 := cellk hb1 (a := ⟨w.heap.size + 1, 1, none⟩) (v := .slice D1 opsb.length d1) (by simp [go_sem])
  have f2 := cellk hb1 (a := ⟨w.heap.size + 1, 2, none⟩) (v := .slice D2 exitsb.length d2) (by simp [go_sem])
  have f3 := cellk hb1 (a := ⟨w.heap.size + 1, 3, none⟩) (v := .int .i64 lastb) (by simp [go_sem])
  have e0 := cellk hb1 (a := ⟨w.heap.size, 0, none⟩) (v := .slice A0 pcs.length c0) (by simp [go_sem])
  have e1 := cellk hb1 (a := ⟨w.heap.size, 1, none⟩) (v := .slice A1 ops.length c1) (by simp [go_sem])
  have e2 := cellk hb1 (a := ⟨w.heap.size, 2, none⟩) (v := .slice A2 exits.length c2) (by simp [go_sem])
  have e3 := cellk hb1 (a := ⟨w.heap.size, 3, none⟩) (v := .int .i64 last) (by simp [go_sem])
  have HB1 := Lib.hid (bthen (bal (bal (Below.refl w.heap.size w) _) _) hb1)
  have hz1 : w.heap.size + 1 < w1.heap.size := lt_of_cell f0
  clear hb1 HLA
  generalize pcs.length = lp at *
  generalize ops.length = lo at *
  generalize exits.length = le at *
  generalize pcsb.length = lpb at *
  generalize opsb.length = lob at *
  generalize exitsb.length = leb at *
  go_wp2_with fail
  refine (HLB.out _ HB1.out).mono ?_
  rintro e w2 ⟨rfl, hb2⟩
  have HB2 := Lib.hid (bthen HB1.out hb2)
  replace f0 := cellk hb2 f0
  replace f1 := cellk hb2 f1
  replace f2 := cellk hb2 f2
  replace f3 := cellk hb2 f3
  replace e0 := cellk hb2 e0
  replace e1 := cellk hb2 e1
  replace e2 := cellk hb2 e2
  replace e3 := cellk hb2 e3
  have hz2 : w.heap.size + 1 < w2.heap.size := lt_of_cell f0
  clear hb2 HB1 HLB hz1
  go_wp2_with fail
  refine (HOWA.out _ HB2.out).mono ?_
  rintro e w3 ⟨rfl, ⟨hbx, hsh, hxl⟩, hb3⟩
  have HB3 := Lib.hid (bthen HB2.out hb3)
  have HSH := Lib.hid hsh
  have HBX := Lib.hid hbx
  replace f0 := cellk hb3 f0
  replace f1 := cellk hb3 f1
  replace f2 := cellk hb3 f2
  replace f3 := cellk hb3 f3
  replace e0 := cellk hb3 e0
  replace e1 := cellk hb3 e1
  replace e2 := cellk hb3 e2
  replace e3 := cellk hb3 e3
  clear hb3 HB2 hsh hbx HOWA
  generalize hN0 : w2.heap.size = N0 at *
  go_wp2_with fail
  refine (HCL.out _ _ HBX.out).mono ?_
  rintro e w4 ⟨⟨gc, rfl, hgc, hfr⟩, hb4⟩
  have HB4 := Lib.hid (bthen HB3.out hb4)
  have hs4 := hb4.size
  have HFR := Lib.hid hfr
  have HSH4 := Lib.hid (HSH.out.below hb4)
  have HBX4 := Lib.hid (HBX.out.below hb4)
  have HBC4 := Lib.hid (hfr w4 (fun _ _ _ => rfl))
  replace f0 := cellk hb4 f0
  replace f1 := cellk hb4 f1
  replace f2 := cellk hb4 f2
  replace f3 := cellk hb4 f3
  replace e0 := cellk hb4 e0
  replace e1 := cellk hb4 e1
  replace e2 := cellk hb4 e2
  replace e3 := cellk hb4 e3
  clear hb4 HB3 hfr HCL HSH HBX
  generalize hN1 : w3.heap.size = N1 at *
  go_wp2
  refine wp_region_fc (by kernel_rfl) (by kernel_rfl) [.is (.pointer (some ⟨gc, 0, none⟩)), .any (AggB lp lo le pcs ops exits last) AggB.keep, .is (.agg #[.slice A0 lp c0, .slice A1 lo c1, .slice A2 le c2, .int .i64 last]), .is (.bool true), .is (.bool false), .is (.bool false),
    .is (.pointer (some ⟨gc, 0, none⟩)), .is (.int .i64 ck), .is (.agg #[.slice A0 lp c0, .slice A1 lo c1, .slice A2 le c2, .int .i64 last]), .is (.int .i64 ck), .is (.bool false), .is (.bool false), .is (.bool false),
    .is (.pointer (some ⟨N0 + 1, 0, none⟩)), .is (.agg #[.slice D0 lpb d0, .slice D1 lob d1, .slice D2 leb d2, .int .i64 lastb]), .any (PtrB Bb) PtrB.keep, .is (.bool V), .is (.agg #[.slice A0 lp c0, .slice A1 lo c1, .slice A2 le c2, .int .i64 last]), .is (.agg #[.slice D0 lpb d0, .slice D1 lob d1, .slice D2 leb d2, .int .i64 lastb]), .is (.bool V), .is (.bool false), .is (.bool false), .is (.bool false),
    .is (.pointer (some ⟨N0 + 1, 0, none⟩)), .is (.pointer (some ⟨gc, 0, none⟩)), .is (.bool true), .is (.bool false), .is (.bool false)] ?_ ?_
  · intro vs w' hb'
    have x0 := cellk hb' e0
    have x1 := cellk hb' e1
    have x2 := cellk hb' e2
    have x3 := cellk hb' e3
    have y0 := cellk hb' f0
    have y1 := cellk hb' f1
    have y2 := cellk hb' f2
    have y3 := cellk hb' f3
    have HBW := Lib.hid (bthen HB4.out hb')
    have HX := Lib.hid (HBX4.out.below hb')
    have HC := Lib.hid (HBC4.out.below hb')
    clear e0 e1 e2 e3 f0 f1 f2 f3 HB4 HFR HSH4 HBX4 HBC4 hb'
    simp only [factSteps, putAll, Act.put, List.setIfInBounds_toArray, List.set_cons_zero, List.set_cons_succ, Nat.zero_add, Nat.reduceAdd]
    refine ⟨?_, ?_, ?_, ?_, ?_, ?_, ?_, ?_, ?_, ?_, ?_, ?_, ?_, ?_, ?_, ?_, ?_, ?_, ?_, ?_, ?_, ?_, ?_, ?_, ?_, ?_, ?_, ?_, trivial⟩
    all_goals
      intro he
      simp only [factEdges, Region.binds, List.getD_cons_zero, List.getD_cons_succ, Fc.holds, true_implies, and_true] at he
      try simp only [and_self] at he
      first | (obtain ⟨⟨Z0, Z1, Z2, z0, z1, z2, hv, hk⟩, h2, -⟩ : AggB lp lo le pcs ops exits last (vs 1) w' ∧ vs 2 = _ ∧ _ := he; simp only [hv, h2]) | (obtain ⟨h13, ⟨gb, hv, hBb⟩, -, hr⟩ : vs 13 = _ ∧ PtrB Bb (vs 15) w' ∧ _ ∧ _ := he; simp only [hv, h13, hr]) | (simp only [he]) | skip
      go_wp2_with (first | (go_at_call 20; refine (HBK.out _ _ HC.out).mono ?_; rintro e w5 ⟨⟨v5, rfl, hv5⟩, hb5⟩) | (go_at_call 19; (first | (refine (HSA.out _ _ _ _ _ _ _ hk HBW.out).mono ?_) | (refine (HSB.out _ HBW.out).mono ?_)); rintro e w5 ⟨rfl, hb5⟩) | (go_at_call 9; refine (HCK.out _ _ HC.out).mono ?_; rintro e w5 ⟨rfl, hb5⟩) | (go_at_call 11; refine (HRC.out _ HBW.out).mono ?_; rintro e w5 ⟨rfl, hb5⟩) | (go_at_call 10; refine (HOWB.out _ HBW.out).mono ?_; rintro e w5 ⟨rfl, hBA, hb5⟩) | (go_at_call 21; (first | (refine (HIS.out _ _ _ HX.out hBb).mono ?_) | (refine (HIC.out _ _ _ HX.out HC.out).mono ?_)); rintro e w5 ⟨rfl, hb5⟩))
      first
        | exact ⟨rfl, Below.refl _ _⟩
        | exact ⟨(show PtrB Bb _ _ from ⟨_, rfl, hBA⟩), hb5⟩
        | exact (show PtrB Bb _ _ from ⟨_, rfl, hBA⟩)
        | exact ⟨(show AggB lp lo le pcs ops exits last _ _ from hv5), hb5⟩
        | exact (show AggB lp lo le pcs ops exits last _ _ from hv5)
        | exact ⟨rfl, hb5⟩
        | exact hb5
        | exact Below.refl _ _
        | exact rfl
        | (trace_state; skip)
  · intro vs w5 hb5 hall
    simp only [factSteps, List.getD_cons_zero, List.getD_cons_succ, Fc.holds, and_true] at hall
    obtain ⟨-, -, -, -, -, -, -, -, -, -, -, -, -, -, -, -, -, -, -, -, -, -, -, -, -, -, -, e27⟩ := hall
    simp only [putAll, Act.put, List.setIfInBounds_toArray, List.set_cons_zero, List.set_cons_succ, Nat.zero_add, Nat.reduceAdd, e27]
    have HB5 := Lib.hid (bthen HB4.out hb5)
    have HSH5 := Lib.hid (HSH4.out.below hb5)
    have HFW := Lib.hid (fun W (hW : ∀ k, N1 ≤ k → k < w5.heap.size → W.heap[k]? = w5.heap[k]?) => HFR.out W (fun k h1 h2 => (hW k h1 (Nat.lt_of_lt_of_le h2 hb5.size)).trans (hb5.block k h2)))
    replace f0 := cellk hb5 f0
    replace f1 := cellk hb5 f1
    replace f2 := cellk hb5 f2
    replace f3 := cellk hb5 f3
    replace e0 := cellk hb5 e0
    replace e1 := cellk hb5 e1
    replace e2 := cellk hb5 e2
    replace e3 := cellk hb5 e3
    have hw5 : N1 ≤ w5.heap.size := by have := hb5.size; omega
    clear hb5 HB4 HSH4 HBX4 HBC4 HFR e27 HIS HOWB HRC HSB HCK HIC
    go_wp2
    go_loopw [7] (fun i wr => ∃ k : Nat, k ≤ me ∧ i = .int .i64 k ∧ Hid (Like N0 N1 w5 wr)) (fun i _ => me - (intOf i).toNat)
    case atStart => exact ⟨0, Nat.zero_le _, rfl, Lib.hid (Like.refl _ _ _)⟩
    case round =>
      obtain ⟨i, hi, rfl, HK⟩ := hrel
      obtain ⟨P2, p2, pc, pi, pm⟩ := HSH5.out.x2
      have q2 := HK.out.row _ _ _ _ _ pc
      by_cases hlt : i < me
      · obtain ⟨g2, A4, n4, c4, rfl, pc4, hn4, pi4⟩ := pm i hlt
        have HPI4 := Lib.hid pi4
        obtain ⟨g2', v2, hg2, g2a, g2b, pv, pf⟩ := pi i hlt
        cases hg2
        have q4 := HK.out.row _ _ _ _ _ pc4
        have HPV := Lib.hid pv
        have HPF := Lib.hid pf
        clear pi4 pi pm pv pf
        go_wp2
        go_loopw [8] (fun j wr2 => ∃ k : Nat, k ≤ n4 ∧ j = .int .i64 k ∧ Hid (Like N0 N1 w5 wr2)) (fun j _ => n4 - (intOf j).toNat)
        case atStart => exact ⟨0, Nat.zero_le _, rfl, HK⟩
        case round =>
          clear HK q2 q4
          obtain ⟨k, hk, rfl, HK⟩ := hrel
          have q2 := HK.out.row _ _ _ _ _ pc
          have q4 := HK.out.row _ _ _ _ _ pc4
          by_cases hlt2 : k < n4
          · obtain ⟨g4, v4, rfl, g4a, g4b, qv, qf⟩ := HPI4.out k hlt2
            obtain ⟨v5, q5⟩ := HK.out.int _ _ _ qv
            have q6 := (HK.out.fz ⟨g4, k * 2 + 1, none⟩).trans qf
            clear qv qf
            go_wp2
            go_roundw
            case rel => exact ⟨k + 1, by omega, by go_num, Lib.hid (HK.out.set q5 g4a g4b _)⟩
            case measure => simp [intOf]; omega
          · obtain ⟨v5, q5⟩ := HK.out.int _ _ _ HPV.out
            have q6 := (HK.out.fz ⟨g2, i * 5 + 0, none⟩).trans HPF.out
            simp only [Nat.add_zero] at q5 q6
            go_wp2
            go_roundw
            case rel => exact ⟨i + 1, by omega, by go_num, Lib.hid (HK.out.set q5 g2a g2b _)⟩
            case measure => simp [intOf]; omega
      · clear pc pi pm
        go_wp2
        go_loopw [9] (fun i wr => ∃ k : Nat, k ≤ mo ∧ i = .int .i64 k ∧ Hid (Like N0 N1 w5 wr)) (fun i _ => mo - (intOf i).toNat)
        case atStart => exact ⟨0, Nat.zero_le _, rfl, HK⟩
        case round =>
          clear HK q2 hlt
          obtain ⟨k, hk, rfl, HK⟩ := hrel
          obtain ⟨P1, p1, pc, pi⟩ := HSH5.out.x1
          have q1 := HK.out.row _ _ _ _ _ pc
          by_cases hlt : k < mo
          · obtain ⟨g1, v1, rfl, g1a, g1b, qv, qf⟩ := pi k hlt
            obtain ⟨v5, q5⟩ := HK.out.int _ _ _ qv
            have q6 := (HK.out.fz ⟨g1, k * 6 + 1, none⟩).trans qf
            clear qv qf pc pi
            go_wp2
            go_roundw
            case rel => exact ⟨k + 1, by omega, by go_num, Lib.hid (HK.out.set q5 g1a g1b _)⟩
            case measure => simp [intOf]; omega
          · clear pc pi
            have hz0 : w.heap.size < N0 := by omega
            have HB6 := Lib.hid (HB5.out.trans (HK.out.bel.mono (Nat.le_of_lt hz0)))
            have HBC6 := Lib.hid (HFW.out wr (fun k h1 h2 => HK.out.far k (.inr h1)))
            replace f0 := (HK.out.bel.cell (p := ⟨w.heap.size + 1, 0, none⟩) hz2).trans f0
            replace f1 := (HK.out.bel.cell (p := ⟨w.heap.size + 1, 1, none⟩) hz2).trans f1
            replace f2 := (HK.out.bel.cell (p := ⟨w.heap.size + 1, 2, none⟩) hz2).trans f2
            replace f3 := (HK.out.bel.cell (p := ⟨w.heap.size + 1, 3, none⟩) hz2).trans f3
            replace e0 := (HK.out.bel.cell (p := ⟨w.heap.size, 0, none⟩) hz0).trans e0
            replace e1 := (HK.out.bel.cell (p := ⟨w.heap.size, 1, none⟩) hz0).trans e1
            replace e2 := (HK.out.bel.cell (p := ⟨w.heap.size, 2, none⟩) hz0).trans e2
            replace e3 := (HK.out.bel.cell (p := ⟨w.heap.size, 3, none⟩) hz0).trans e3
            clear HB5 HSH5 HFW
            go_wp2
            refine wp_region_fc (by kernel_rfl) (by kernel_rfl) [.is (.pointer (some ⟨gc, 0, none⟩)), .any (AggB lp lo le pcs ops exits last) AggB.keep, .is (.agg #[.slice A0 lp c0, .slice A1 lo c1, .slice A2 le c2, .int .i64 last]), .is (.bool true), .is (.bool true),
              .is (.pointer none), .is (.bool true), .is (.bool true), .is (.bool true), .is (.bool true), .is (.bool true), .is (.bool true),
              .is (.pointer (some ⟨gc, 0, none⟩)), .is (.bool false), .is (.bool true), .is (.bool true), .is (.bool true),
              .is (.pointer (some ⟨gc, 0, none⟩)), .is (.bool false), .is (.bool true), .is (.bool true), .is (.bool true),
              .is (.bool true), .is (.bool true), .is (.bool true)] ?_ ?_
            · intro vs w' hb'
              have x0 := cellk hb' e0
              have x1 := cellk hb' e1
              have x2 := cellk hb' e2
              have x3 := cellk hb' e3
              have HBW := Lib.hid (bthen HB6.out hb')
              have HC := Lib.hid (HBC6.out.below hb')
              clear e0 e1 e2 e3 f0 f1 f2 f3 HB6 HBC6 HK hb' q1
              simp only [factSteps, putAll, Act.put, List.setIfInBounds_toArray, List.set_cons_zero, List.set_cons_succ, Nat.zero_add, Nat.reduceAdd]
              refine ⟨?_, ?_, ?_, ?_, ?_, ?_, ?_, ?_, ?_, ?_, ?_, ?_, ?_, ?_, ?_, ?_, ?_, ?_, ?_, ?_, ?_, ?_, ?_, ?_, ?_, trivial⟩
              all_goals
                intro he
                simp only [factEdges, Region.binds, List.getD_cons_zero, List.getD_cons_succ, Fc.holds, true_implies, and_true] at he
                try simp only [and_self] at he
                first | (obtain ⟨⟨Z0, Z1, Z2, z0, z1, z2, hv, hk⟩, h2, -⟩ : AggB lp lo le pcs ops exits last (vs 1) w' ∧ vs 2 = _ ∧ _ := he; simp only [hv, h2]) | (simp only [he]) | skip
                go_wp2_with (first | (go_at_call 20; refine (HBK.out _ _ HC.out).mono ?_; rintro e w5 ⟨⟨v5, rfl, hv5⟩, hb5⟩) | (go_at_call 19; refine (HSA.out _ _ _ _ _ _ _ hk HBW.out).mono ?_; rintro e w5 ⟨rfl, hb5⟩) | (go_at_call 18; with_reducible refine Calls.mono (clone_nil _) ?_; rintro e w5 ⟨rfl, rfl⟩) | (go_at_call 21; (first | (with_reducible refine Calls.mono (irsame_nn _) ?_) | (with_reducible refine Calls.mono (irsame_np _ _) ?_) | (with_reducible refine Calls.mono (irsame_pn _ _) ?_)); rintro e w5 ⟨rfl, rfl⟩) | (go_at_call 8; refine (HAW.out _ HBW.out).mono ?_; rintro e w5 ⟨rfl, hb5⟩))
                first
                  | exact ⟨rfl, Below.refl _ _⟩
                  | exact ⟨(show AggB lp lo le pcs ops exits last _ _ from hv5), hb5⟩
                  | exact (show AggB lp lo le pcs ops exits last _ _ from hv5)
                  | exact ⟨rfl, hb5⟩
                  | exact hb5
                  | exact Below.refl _ _
                  | exact rfl
                  | (trace_state; skip)
            · intro vs w7 hb7 hall
              simp only [factSteps, List.getD_cons_zero, List.getD_cons_succ, Fc.holds, and_true] at hall
              obtain ⟨-, -, -, -, -, -, -, -, -, -, -, -, -, -, -, -, -, -, -, -, -, -, -, -, e24⟩ := hall
              simp only [putAll, Act.put, List.setIfInBounds_toArray, List.set_cons_zero, List.set_cons_succ, Nat.zero_add, Nat.reduceAdd, e24]
              have HB7 := Lib.hid (bthen HB6.out hb7)
              clear hb7
              go_wp2
              go_ret
              exact ⟨rfl, HB7.out⟩
end Go.Proofs.YtlnbghhhifnbdaaDoor
