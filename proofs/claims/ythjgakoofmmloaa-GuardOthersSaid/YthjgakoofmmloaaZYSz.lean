/- Contracts of the reference's Same whole, and of ir.Same, its closure and the library's EqualFunc. Conditions: the lists read as the given ones, and have at most a million entries. -/
import Derived.Test.YthjgakoofmmloaaZYJz
import Derived.Deep.RegionLaw
import Derived.Deep.DeepCutAuto
import Derived.Test.YthjgakoofmmloaaZWEqStruct
namespace Go.Proofs.Ythjgakoofmmloaa
open Go.RowKit Go.Proofs.YthjgakoofmmloaaW.PrintWords Go.Proofs.Ythjgakoofmmloaa.PNumberDoes
set_option linter.unusedVariables false
set_option linter.unusedSimpArgs false

def opBk (o : S67) : S62 := ⟨o.f0, o.f1, o.f2, o.f3, o.f4, o.f5⟩
def valBk (v : S70) : S85 := ⟨v.f0, v.f1⟩
def exitBk (e : S73) : S65 := ⟨e.f0, e.f1, e.f2, e.f3, e.f4.map valBk⟩
theorem infoOpR : (Try.prog.info? 62).map (fun i => (i.zero, i.size, i.bytes)) = some (some (.agg #[.int .i64 0, .int .i64 0, .int .i64 0, .int .u32 0, .int .i64 0, .int .i64 0]), 6, 48) := by kernel_rfl
theorem infoValR : (Try.prog.info? 85).map (fun i => (i.zero, i.size, i.bytes)) = some (some (.agg #[.int .i64 0, .int .i64 0]), 2, 16) := by kernel_rfl
theorem infoExitR : (Try.prog.info? 65).map (fun i => (i.zero, i.size, i.bytes)) = some (some (.agg #[.int .i64 0, .int .u32 0, .int .i64 0, .int .i64 0, .slice none 0 0]), 5, 56) := by kernel_rfl
structure BkSt (w wr : World) (a0 : Value) (last : Int) (v1 v2 : Value) : Prop where
 b0 : wr.heap[w.heap.size]? = some (.cells #[.slice none 0 0, .slice none 0 0, .slice none 0 0, .int .i64 0] 26 (0, 0))
 b1 : wr.heap[w.heap.size + 1]? = some (.cells #[a0, v1, v2, .int .i64 last] 26 (0, 0))
 bel : Below w.heap.size w wr
section
variable {w wr w1 : World} {a0 v1 v2 u : Value} {last : Int}
theorem BkSt.d1 (h : BkSt w wr a0 last v1 v2) : wr.cell? ⟨w.heap.size + 1, 1, none⟩ = some v1 := by rw [qb h.b1]; rfl
theorem BkSt.d2 (h : BkSt w wr a0 last v1 v2) : wr.cell? ⟨w.heap.size + 1, 2, none⟩ = some v2 := by rw [qb h.b1]; rfl
theorem BkSt.d0 (h : BkSt w wr a0 last v1 v2) : wr.cell? ⟨w.heap.size + 1, 0, none⟩ = some a0 := by rw [qb h.b1]; rfl
theorem BkSt.d3 (h : BkSt w wr a0 last v1 v2) : wr.cell? ⟨w.heap.size + 1, 3, none⟩ = some (.int .i64 last) := by rw [qb h.b1]; rfl
theorem BkSt.f1 (h : BkSt w wr a0 last v1 v2) (i : Nat) : wr.frozen? ⟨w.heap.size + 1, i, none⟩ = false := qa h.b1 i
theorem BkSt.f0 (h : BkSt w wr a0 last v1 v2) (i : Nat) : wr.frozen? ⟨w.heap.size, i, none⟩ = false := qa h.b0 i
theorem BkSt.lt (h : BkSt w wr a0 last v1 v2) : w.heap.size + 1 < wr.heap.size := qG h.b1
theorem BkSt.below (h : BkSt w wr a0 last v1 v2) (hb : Below wr.heap.size wr w1) : BkSt w w1 a0 last v1 v2 := ⟨qo h.b0 hb, qo h.b1 hb, bthen h.bel hb⟩
theorem BkSt.grown {row : Option Nat} (h : BkSt w wr a0 last v1 v2) (hg : wr.grownBy w1 row) (hr : ∀ k, row = some k → w.heap.size + 1 < k) : BkSt w w1 a0 last v1 v2 :=
 ⟨qM h.b0 hg (fun e => by have := hr _ e.symm; omega), qM h.b1 hg (fun e => by have := hr _ e.symm; omega), pw_below_grown h.bel row h.bel.size hg (fun k hk => by have := hr k hk; omega)⟩
theorem BkSt.set1 (h : BkSt w wr a0 last v1 v2) (u : Value) : BkSt w (wr.setCell ⟨w.heap.size + 1, 1, none⟩ u) a0 last u v2 :=
 ⟨qp h.b0 (by simp) u, qC h.b1 1 u, bset h.bel (by simp) u⟩
theorem BkSt.set2 (h : BkSt w wr a0 last v1 v2) (u : Value) : BkSt w (wr.setCell ⟨w.heap.size + 1, 2, none⟩ u) a0 last v1 u :=
 ⟨qp h.b0 (by simp) u, qC h.b1 2 u, bset h.bel (by simp) u⟩
end
theorem BkSt.row {w wr : World} {a0 v1 v2 u : Value} {last : Int} {α : Type} {d : Kd α} {e : Nat} {ok : Nat → Prop} {xs : List α} (h : BkSt w wr a0 last v1 v2) (hr : d.R e wr w.heap.size ok u xs) (h1 : e ≠ 26) : ∀ k, u.ownBlock = some k → w.heap.size + 1 < k := by
 intro k hk
 have a := Kd.R_base hr k hk
 have b : some w.heap.size ≠ u.ownBlock := Kd.R_ne hr h.b0 h1
 have c : some (w.heap.size + 1) ≠ u.ownBlock := Kd.R_ne hr h.b1 h1
 rw [hk] at b c
 have b' : w.heap.size ≠ k := fun e => b (by rw [e])
 have c' : w.heap.size + 1 ≠ k := fun e => c (by rw [e])
 omega
structure BkMp (w wr : World) (q : S73) (v4 vm : Value) : Prop where
 b0 : wr.heap[w.heap.size]? = some (.cells #[.int .i64 q.f0, .int .u32 q.f1, .int .i64 q.f2, .int .i64 q.f3, v4] 73 (0, 0))
 b1 : wr.heap[w.heap.size + 1]? = some (.cells #[.int .i64 q.f0, .int .u32 q.f1, .int .i64 q.f2, .int .i64 q.f3, vm] 65 (0, 0))
 bel : Below w.heap.size w wr
section
variable {w wr w1 : World} {q : S73} {v4 vm u : Value}
theorem BkMp.c4 (h : BkMp w wr q v4 vm) : wr.cell? ⟨w.heap.size, 4, none⟩ = some v4 := by rw [qb h.b0]; rfl
theorem BkMp.d0 (h : BkMp w wr q v4 vm) : wr.cell? ⟨w.heap.size + 1, 0, none⟩ = some (.int .i64 q.f0) := by rw [qb h.b1]; rfl
theorem BkMp.d1 (h : BkMp w wr q v4 vm) : wr.cell? ⟨w.heap.size + 1, 1, none⟩ = some (.int .u32 q.f1) := by rw [qb h.b1]; rfl
theorem BkMp.d2 (h : BkMp w wr q v4 vm) : wr.cell? ⟨w.heap.size + 1, 2, none⟩ = some (.int .i64 q.f2) := by rw [qb h.b1]; rfl
theorem BkMp.d3 (h : BkMp w wr q v4 vm) : wr.cell? ⟨w.heap.size + 1, 3, none⟩ = some (.int .i64 q.f3) := by rw [qb h.b1]; rfl
theorem BkMp.d4 (h : BkMp w wr q v4 vm) : wr.cell? ⟨w.heap.size + 1, 4, none⟩ = some vm := by rw [qb h.b1]; rfl
theorem BkMp.f4 (h : BkMp w wr q v4 vm) (i : Nat) : wr.frozen? ⟨w.heap.size + 1, i, none⟩ = false := qa h.b1 i
theorem BkMp.lt (h : BkMp w wr q v4 vm) : w.heap.size + 1 < wr.heap.size := qG h.b1
theorem BkMp.below (h : BkMp w wr q v4 vm) (hb : Below wr.heap.size wr w1) : BkMp w w1 q v4 vm := ⟨qo h.b0 hb, qo h.b1 hb, bthen h.bel hb⟩
theorem BkMp.grown {row : Option Nat} (h : BkMp w wr q v4 vm) (hg : wr.grownBy w1 row) (hr : ∀ k, row = some k → w.heap.size + 1 < k) : BkMp w w1 q v4 vm :=
 ⟨qM h.b0 hg (fun e => by have := hr _ e.symm; omega), qM h.b1 hg (fun e => by have := hr _ e.symm; omega), pw_below_grown h.bel row h.bel.size hg (fun k hk => by have := hr k hk; omega)⟩
theorem BkMp.set4 (h : BkMp w wr q v4 vm) (u : Value) : BkMp w (wr.setCell ⟨w.heap.size + 1, 4, none⟩ u) q v4 u :=
 ⟨qp h.b0 (by simp) u, qC h.b1 4 u, bset h.bel (by simp) u⟩
theorem BkMp.row {α : Type} {d : Kd α} {e : Nat} {ok : Nat → Prop} {xs : List α} (h : BkMp w wr q v4 vm) (hr : d.R e wr w.heap.size ok u xs) (h1 : e ≠ 73) (h2 : e ≠ 65) : ∀ k, u.ownBlock = some k → w.heap.size + 1 < k := by
 intro k hk
 have a := Kd.R_base hr k hk
 have b : some w.heap.size ≠ u.ownBlock := Kd.R_ne hr h.b0 h1
 have c : some (w.heap.size + 1) ≠ u.ownBlock := Kd.R_ne hr h.b1 h2
 rw [hk] at b c
 have b' : w.heap.size ≠ k := fun e => b (by rw [e])
 have c' : w.heap.size + 1 ≠ k := fun e => c (by rw [e])
 omega
end
set_option maxHeartbeats 8000000 in
set_option maxRecDepth 100000 in
theorem back_c (B : BlkV) (g : Nat) (w : World) (hB : BlockAt w g B) (hM : ∀ x ∈ B.exits, x.f4.length ≤ 1000000) (hO : B.ops.length ≤ 1000000) (hE : B.exits.length ≤ 1000000) :
  Calls Try.prog 21 #[.pointer (some ⟨g, 0, none⟩)] w fun e w' => (∃ A0 A1 A2 c0 c1 c2, e = .returned (.agg #[.slice A0 B.pcs.length c0, .slice A1 B.ops.length c1, .slice A2 B.exits.length c2, .int .i64 B.last]) ∧
   (Kd.int .u32).C w' A0 B.pcs.length B.pcs ∧ k62.C w' A1 B.ops.length (B.ops.map opBk) ∧ k65.C w' A2 B.exits.length (B.exits.map exitBk) ∧ B.ops.length ≤ c1 ∧ B.exits.length ≤ c2) ∧ Below w.heap.size w w' := by
 obtain ⟨A0, c0, pc0, k0⟩ := hB.pcs
 obtain ⟨A1, c1, pc1, k1⟩ := hB.ops
 obtain ⟨A2, c2, pc2, k2⟩ := hB.exits
 have pc3 := hB.last
 have hg : g < w.heap.size := World.block_lt_of_cell? w ⟨g, 1, none⟩ pc1
 have hg0 : ¬ g = w.heap.size := by omega
 have hg1 : ¬ g = w.heap.size + 1 := by omega
 have HC0 := Lib.hid k0
 have HC1 := Lib.hid k1
 have HC2 := Lib.hid k2
 have HMM := Lib.hid hM
 obtain ⟨pcs, ops, exits, last⟩ := B
 simp only at pc0 pc1 pc2 pc3 HC0 HC1 HC2 HMM hO hE ⊢
 clear hB hM k0 k1 k2
 go_enter Try.func21, Try.ntmps21
 go_upto_region 3 with fail
 go_cut [3] from 12 to 20 (fun p wx => p = .pointer (some ⟨w.heap.size + 1, 0, none⟩) ∧ wx = ((w.alloc (.cells #[.slice none 0 0, .slice none 0 0, .slice none 0 0, .int .i64 0] 26)).alloc (.cells #[.slice A0 pcs.length c0, .slice none 0 0, .slice none 0 0, .int .i64 last] 26)).drew)
 case first =>
  go_region_law (fail)
  all_goals
   go_wp2_with fail
   go_meet
   exact ⟨rfl, rfl⟩
 case rest =>
  obtain ⟨rfl, rfl⟩ := hcut
  go_wp2
  go_loopw [4] (fun i wr => ∃ k : Nat, k ≤ ops.length ∧ i = .int .i64 k ∧ ∃ v1, Hid (BkSt w wr (.slice A0 pcs.length c0) last v1 (.slice none 0 0)) ∧ Hid (Kd.R k62 62 wr w.heap.size (fun _ => True) v1 ((ops.map opBk).take k))) (fun i _ => ops.length - (intOf i).toNat)
  case atStart =>
   refine ⟨0, Nat.zero_le _, rfl, .slice none 0 0, Lib.hid ⟨?_, ?_, ?_⟩, Lib.hid (Kd.R_nil _ _ _ _ _)⟩
   ·exact qi (qf (qD _ _) _)
   ·exact qi (by simpa using qD (w.alloc _) _)
   ·exact bdn (bal (bal (Below.refl _ _) _) _) 1
  case round =>
   obtain ⟨k, hk, rfl, v1, HS, HR⟩ := hrel
   have e1 := cellk HS.out.bel pc1
   have e2 := HS.out.d1
   have e3 := HS.out.f1 1
   have hlt0 := HS.out.lt
   have hn1 : ¬ w.heap.size + 1 = wr.heap.size := by omega
   have hn2 : ¬ g = wr.heap.size := by omega
   have hlg : g < wr.heap.size := by omega
   by_cases hlt : k < ops.length
   ·obtain ⟨ad, rfl, d0, d1, d2, d3, d4, d5⟩ := at_T67 (Kd.qn HC1.out HS.out.bel) (k : Int) (by omega) (by omega)
    have hq : qz ops (k : Int) = ops[k] := by simp [qz, hlt]
    have HT := Lib.hid (take_map opBk ops k hlt)
    rw [← hq] at HT
    simp only [Int.toNat_natCast] at d0 d1 d2 d3 d4 d5
    clear hq
    generalize qz ops (k : Int) = q at *
    have HLEN := Lib.hid (show ((ops.map opBk).take k ++ [opBk q]).length = k + 1 by simp; omega)
    go_wp2
    have HS' := Lib.hid (HS.out.below (bdn (Below.refl _ _) 1))
    have HR' := Lib.hid (Kd.R_drew HR.out)
    go_region_law (refine Kd.R_append_step k62 (w0 := w) w.heap.size rfl (.tmp 31) (.tmp 39) 23 62 (.agg #[.int .i64 0, .int .i64 0, .int .i64 0, .int .u32 0, .int .i64 0, .int .i64 0]) 48 rfl Try.underlying23 infoOpR rfl (by decide) (by decide) v1 ((ops.map opBk).take k) (opBk q) [.int .i64 q.f0, .int .i64 q.f1, .int .i64 q.f2, .int .u32 q.f3, .int .i64 q.f4, .int .i64 q.f5] (fun _ => True) (fun _ => False) rfl rfl (k62_mkM _ _ _ _) (fun _ hk => hk.elim) (fun _ _ => trivial) HR'.out HS'.out.bel HS'.out.bel.size (by simp; omega) ?_; intro v3 w3 ho3 hb3 hg3 hat3; have HS3 := Lib.hid (HS'.out.grown hg3 (HS'.out.row HR'.out (by decide))); obtain ⟨A3, c3, hv3⟩ := Kd.R_slice ho3; rw [HLEN.out] at hv3; subst hv3; have HR3 := Lib.hid ho3; have e5 := HS3.out.d1; have e6 := HS3.out.f1 1; clear ho3 hb3 hg3 hat3)
    all_goals
     go_wp2
     go_roundw
     case rel => exact ⟨k + 1, by omega, by go_num, _, Lib.hid (HS3.out.set1 _), Lib.hid (by rw [HT.out]; exact Kd.R_set HR3.out HS3.out.b1 (by decide) 1 _)⟩
     case measure => simp [intOf]; omega
   ·have hke : ops.length = k := by omega
    have hR := HR.out
    rw [← hke, show ops.length = (ops.map opBk).length by simp, List.take_length] at hR
    have HR1 := Lib.hid hR
    have e4 := cellk HS.out.bel pc2
    clear hR HR e2 e3
    go_wp2
    go_loopw [5] (fun i wr2 => ∃ k : Nat, k ≤ exits.length ∧ i = .int .i64 k ∧ ∃ v2, Hid (BkSt w wr2 (.slice A0 pcs.length c0) last v1 v2) ∧ Hid (Kd.R k62 62 wr2 w.heap.size (fun _ => True) v1 (ops.map opBk)) ∧ Hid (Kd.R k65 65 wr2 w.heap.size (fun _ => True) v2 ((exits.map exitBk).take k))) (fun i _ => exits.length - (intOf i).toNat)
    case atStart => exact ⟨0, Nat.zero_le _, rfl, .slice none 0 0, HS, HR1, Lib.hid (Kd.R_nil _ _ _ _ _)⟩
    case round =>
     clear HS HR1 e1 e4 hlt0 hn1 hn2 hlg hlt hk hke
     obtain ⟨k, hk, rfl, v2, HS, HR1, HR2⟩ := hrel
     obtain ⟨wm, hwm⟩ : ∃ wm, wm = wr := ⟨_, rfl⟩
     subst hwm
     have e4 := cellk HS.out.bel pc2
     by_cases hlt : k < exits.length
     ·obtain ⟨ad, A4, c4, rfl, d0, d1, d2, d3, d4, l4, k4⟩ := at_T73 (Kd.qn HC2.out HS.out.bel) (k : Int) (by omega) (by omega)
      have hq : qJ exits (k : Int) = exits[k] := by simp [qJ, hlt]
      have HT := Lib.hid (take_map exitBk exits k hlt)
      have hm := HMM.out exits[k] (List.getElem_mem hlt)
      rw [← hq] at HT hm
      simp only [Int.toNat_natCast] at d0 d1 d2 d3 d4
      have HK4 := Lib.hid k4
      clear hq k4
      generalize qJ exits (k : Int) = q at *
      go_wp2
      go_loopw [8] (fun i wr3 => ∃ j : Nat, j ≤ q.f4.length ∧ i = .int .i64 j ∧ ∃ vm, Hid (BkMp wm wr3 q (.slice A4 q.f4.length c4) vm) ∧ Hid (Kd.R k85 85 wr3 wm.heap.size (fun _ => True) vm ((q.f4.map valBk).take j))) (fun i _ => q.f4.length - (intOf i).toNat)
      case atStart =>
       refine ⟨0, Nat.zero_le _, rfl, .slice none 0 0, Lib.hid ⟨?_, ?_, ?_⟩, Lib.hid (Kd.R_nil _ _ _ _ _)⟩
       ·exact qf (qD _ _) _
       ·simpa using qD (wm.alloc _) _
       ·exact bal (bal (Below.refl _ _) _) _
      case round =>
       obtain ⟨j, hj, rfl, vm, HP, HRm⟩ := hrel
       have g0 := HP.out.c4
       have hl0 := HP.out.lt
       have hl1' := HS.out.lt
       have hn0 : ¬ wm.heap.size = wr.heap.size := by omega
       have hn1 : ¬ wm.heap.size + 1 = wr.heap.size := by omega
       have hn2 : ¬ w.heap.size + 1 = wr.heap.size := by omega
       have hl3 : w.heap.size + 1 < wr.heap.size := by omega
       by_cases hlt2 : j < q.f4.length
       ·have g1 := HP.out.d4
        have g2 := HP.out.f4 4
        obtain ⟨ad2, rfl, x0, x1⟩ := at_T70 (Kd.qn HK4.out HP.out.bel) (j : Int) (by omega) (by omega)
        have hq : rd_T70 q.f4 (j : Int) = q.f4[j] := by simp [rd_T70, hlt2]
        have HT2 := Lib.hid (take_map valBk q.f4 j hlt2)
        rw [← hq] at HT2
        simp only [Int.toNat_natCast] at x0 x1
        clear hq
        generalize rd_T70 q.f4 (j : Int) = y at *
        have HLEN := Lib.hid (show ((q.f4.map valBk).take j ++ [valBk y]).length = j + 1 by simp; omega)
        go_wp2
        have HP' := Lib.hid (HP.out.below (bdn (Below.refl _ _) 1))
        have HR' := Lib.hid (Kd.R_drew HRm.out)
        go_region_law (refine Kd.R_append_step k85 (w0 := wm) wm.heap.size rfl (.tmp 75) (.tmp 81) 63 85 (.agg #[.int .i64 0, .int .i64 0]) 16 rfl Try.underlying63 infoValR rfl (by decide) (by decide) vm ((q.f4.map valBk).take j) (valBk y) [.int .i64 y.f0, .int .i64 y.f1] (fun _ => True) (fun _ => False) rfl rfl (k85_mkM _ _ _ _) (fun _ hk => hk.elim) (fun _ _ => trivial) HR'.out HP'.out.bel HP'.out.bel.size (by simp; omega) ?_; intro v3 w3 ho3 hb3 hg3 hat3; have HP3 := Lib.hid (HP'.out.grown hg3 (HP'.out.row HR'.out (by decide) (by decide))); obtain ⟨A3, c3, hv3⟩ := Kd.R_slice ho3; rw [HLEN.out] at hv3; subst hv3; have HR3 := Lib.hid ho3; have e5 := HP3.out.d4; have e6 := HP3.out.f4 4; clear ho3 hb3 hg3 hat3)
        all_goals
         go_wp2
         go_roundw
         case rel => exact ⟨j + 1, by omega, by go_num, _, Lib.hid (HP3.out.set4 _), Lib.hid (by rw [HT2.out]; exact Kd.R_set HR3.out HP3.out.b1 (by decide) 4 _)⟩
         case measure => simp [intOf]; omega
       ·have hje : q.f4.length = j := by omega
        have hRm := HRm.out
        rw [← hje, show q.f4.length = (q.f4.map valBk).length by simp, List.take_length] at hRm
        have hokp : Kd.R k85 85 wr w.heap.size (fun k => wm.heap.size ≤ k) vm (q.f4.map valBk) := Kd.R_mono (Kd.R_lower (Kd.R_bound hRm) HS.out.bel.size) (fun k hk => hk.2.1)
        obtain ⟨Am, cm, hvm⟩ := Kd.R_slice hRm
        rw [List.length_map] at hvm
        subst hvm
        have HRm1 := Lib.hid hokp
        have HS' := Lib.hid (HS.out.below HP.out.bel)
        have HR1' := Lib.hid (Kd.qO HR1.out HP.out.bel)
        have HR2' := Lib.hid (Kd.qO HR2.out HP.out.bel)
        have HLT2 := Lib.hid (fun k hk => Kd.R_lt HR2.out k hk)
        have HLEN := Lib.hid (show ((exits.map exitBk).take k ++ [exitBk q]).length = k + 1 by simp; omega)
        have i0 := HP.out.d0
        have i1 := HP.out.d1
        have i2 := HP.out.d2
        have i3 := HP.out.d3
        have i4 := HP.out.d4
        have i5 := (HS.out.below HP.out.bel).d2
        have i6 := (HS.out.below HP.out.bel).f1 2
        clear hje hRm hokp HRm e4 d0 d1 d2 d3 d4
        go_wp2_with (at_builtin; refine Kd.R_append k65 (w0 := w) w.heap.size rfl _ _ 24 65 (.agg #[.int .i64 0, .int .u32 0, .int .i64 0, .int .i64 0, .slice none 0 0]) 56 rfl Try.underlying24 infoExitR rfl (by decide) (by decide) v2 ((exits.map exitBk).take k) (exitBk q) [.int .i64 q.f0, .int .u32 q.f1, .int .i64 q.f2, .int .i64 q.f3, .slice Am q.f4.length cm] (fun _ => True) (fun k => wm.heap.size ≤ k) rfl rfl (k65_mkM _ _ _ _ HRm1.out) (fun k hk => ⟨trivial, fun e => by have := HLT2.out k e.symm; omega⟩) (fun _ _ => trivial) HR2'.out HS'.out.bel HS'.out.bel.size (by simp; omega) ?_)
        intro v3 w3 ho3 hb3 hg3 hat3
        have HS3 := Lib.hid (HS'.out.grown hg3 (HS'.out.row HR2'.out (by decide)))
        have HR13 := Lib.hid (Kd.R_over HR1'.out HR2'.out (by decide) hg3)
        obtain ⟨A3, c3, hv3⟩ := Kd.R_slice ho3
        rw [HLEN.out] at hv3
        subst hv3
        have HR3 := Lib.hid ho3
        have e5 := HS3.out.d2
        have e6 := HS3.out.f1 2
        clear ho3 hb3 hg3 hat3
        go_wp2
        go_roundw
        case rel => exact ⟨k + 1, by omega, by go_num, _, Lib.hid (HS3.out.set2 _), Lib.hid (Kd.R_set HR13.out HS3.out.b1 (by decide) 2 _), Lib.hid (by rw [HT.out]; exact Kd.R_set HR3.out HS3.out.b1 (by decide) 2 _)⟩
        case measure => simp [intOf]; omega
     ·have hke : exits.length = k := by omega
      have hR := HR2.out
      rw [← hke, show exits.length = (exits.map exitBk).length by simp, List.take_length] at hR
      have HR2' := Lib.hid hR
      clear hR
      obtain ⟨P1, C1, hv1, hl1, hc1⟩ := Kd.R_reads HR1.out
      obtain ⟨P2, C2, hv2, hl2, hc2⟩ := Kd.R_reads HR2'.out
      rw [List.length_map] at hv1 hl1 hc1 hv2 hl2 hc2
      subst hv1 hv2
      have i0 := HS.out.d0
      have i1 := HS.out.d1
      have i2 := HS.out.d2
      have i3 := HS.out.d3
      have j0 := HS.out.f0 0
      have j1 := HS.out.f0 1
      have j2 := HS.out.f0 2
      have j3 := HS.out.f0 3
      have z0 : wm.cell? ⟨w.heap.size, 0, none⟩ = some (.slice none 0 0) := by rw [qb HS.out.b0]; rfl
      have z1 : wm.cell? ⟨w.heap.size, 1, none⟩ = some (.slice none 0 0) := by rw [qb HS.out.b0]; rfl
      have z2 : wm.cell? ⟨w.heap.size, 2, none⟩ = some (.slice none 0 0) := by rw [qb HS.out.b0]; rfl
      have z3 : wm.cell? ⟨w.heap.size, 3, none⟩ = some (.int .i64 0) := by rw [qb HS.out.b0]; rfl
      have HB := Lib.hid HS.out.bel
      have b' := qC (qC (qC (qC HS.out.b0 0 (.slice A0 pcs.length c0)) 1 (.slice P1 ops.length C1)) 2 (.slice P2 exits.length C2)) 3 (.int .i64 last)
      have hbel : Below w.heap.size w ((((wm.setCell ⟨w.heap.size, 0, none⟩ (.slice A0 pcs.length c0)).setCell ⟨w.heap.size, 1, none⟩ (.slice P1 ops.length C1)).setCell ⟨w.heap.size, 2, none⟩ (.slice P2 exits.length C2)).setCell ⟨w.heap.size, 3, none⟩ (.int .i64 last)) := bset (bset (bset (bset HS.out.bel (Nat.le_refl _) _) (Nat.le_refl _) _) (Nat.le_refl _) _) (Nat.le_refl _) _
      have hr1 := Kd.R_set (Kd.R_set (Kd.R_set (Kd.R_set HR1.out HS.out.b0 (by decide) 0 (.slice A0 pcs.length c0)) (qC HS.out.b0 0 _) (by decide) 1 (.slice P1 ops.length C1)) (qC (qC HS.out.b0 0 _) 1 _) (by decide) 2 (.slice P2 exits.length C2)) (qC (qC (qC HS.out.b0 0 _) 1 _) 2 _) (by decide) 3 (.int .i64 last)
      have hr2 := Kd.R_set (Kd.R_set (Kd.R_set (Kd.R_set HR2'.out HS.out.b0 (by decide) 0 (.slice A0 pcs.length c0)) (qC HS.out.b0 0 _) (by decide) 1 (.slice P1 ops.length C1)) (qC (qC HS.out.b0 0 _) 1 _) (by decide) 2 (.slice P2 exits.length C2)) (qC (qC (qC HS.out.b0 0 _) 1 _) 2 _) (by decide) 3 (.int .i64 last)
      have hq1 := (Kd.R_reads' hr1).2.2
      have hq2 := (Kd.R_reads' hr2).2.2
      rw [List.length_map] at hq1 hq2
      have HB1 := Lib.hid b'
      have HB2 := Lib.hid hbel
      have HB3 := Lib.hid hq1
      have HB4 := Lib.hid hq2
      clear HS HR1 HR2 HR2' hke hk b' hbel hr1 hr2 hq1 hq2
      go_wp2
      generalize hW : ((((wm.setCell ⟨w.heap.size, 0, none⟩ (.slice A0 pcs.length c0)).setCell ⟨w.heap.size, 1, none⟩ (.slice P1 ops.length C1)).setCell ⟨w.heap.size, 2, none⟩ (.slice P2 exits.length C2)).setCell ⟨w.heap.size, 3, none⟩ (.int .i64 last)) = W at *
      have hb2 : W.heap[w.heap.size]? = some (.cells #[.slice A0 pcs.length c0, .slice P1 ops.length C1, .slice P2 exits.length C2, .int .i64 last] 26 (0, 0)) := HB1.out
      clear hW z0 z1 z2 z3 j0 j1 j2 j3
      try simp only [Exit.inBlock, Exit.then]
      refine bodyPost_ret (results_cell_row rfl _ _ w.heap.size 26 _ (0, 0) _ rfl hb2 Try.underlying26 rfl (by kernel_rfl)) rfl ?_
      exact ⟨⟨A0, P1, P2, c0, C1, C2, rfl, Kd.qn HC0.out HB2.out, HB3.out, HB4.out, hl1, hl2⟩, HB2.out⟩
end Go.Proofs.Ythjgakoofmmloaa

namespace Go.Proofs.Ythjgakoofmmloaa
open Go.RowKit Go.Proofs.YthjgakoofmmloaaW.PrintWords Go.Proofs.Ythjgakoofmmloaa.PNumberDoes
set_option linter.unusedVariables false
set_option linter.unusedSimpArgs false

theorem part_i (t : TypeId) (k : IntKind) (h : Try.prog.underlying t = some (.int k)) (xs : Array Value) (i : Nat) (x : Value) (hx : xs[i]? = some x) (w : World) : (part t xs i).run Try.prog w = .ok x w := by
 simp [part, isAgg, run_underlying h, hx, go_sem]
theorem take_eq {α : Type} (xs ys : List α) (k : Nat) (hx : k < xs.length) (hy : k < ys.length) (h : xs.take k = ys.take k) (he : xs[k] = ys[k]) : xs.take (k + 1) = ys.take (k + 1) := by
 rw [List.take_succ_eq_append_getElem hx, List.take_succ_eq_append_getElem hy, h, he]
theorem ne_at {α : Type} (xs ys : List α) (k : Nat) (hx : k < xs.length) (hy : k < ys.length) (h : ¬ xs[k] = ys[k]) : ¬ xs = ys := by
 intro e
 subst e
 exact h rfl
theorem nlen {α : Type} (xs ys : List α) (h : ¬ xs.length = ys.length) : ¬ xs = ys := fun e => h (by rw [e])
theorem eq_rval (p q : S85) (v : World) : (Op.equalIn 10000 85 (.agg #[.int .i64 p.f0, .int .i64 p.f1]) (.agg #[.int .i64 q.f0, .int .i64 q.f1])).run Try.prog v = .ok (p.f0 == q.f0 && (p.f1 == q.f1)) v := by
 refine eqA_of (d := 9999) Try.underlying85 (by kernel_rfl) ?_
 refine eqf_cons (by decide) (part_i 3 .i64 Try.underlying3 _ 0 _ rfl v) (part_i 3 .i64 Try.underlying3 _ 0 _ rfl v) (run_equalIn_int v _ 3 .i64 .i64 _ _ Try.underlying3) ?_
 exact eqf_last (by decide) (part_i 3 .i64 Try.underlying3 _ 1 _ rfl v) (part_i 3 .i64 Try.underlying3 _ 1 _ rfl v) (run_equalIn_int v _ 3 .i64 .i64 _ _ Try.underlying3)
theorem eq_rop (p q : S62) (v : World) : (Op.equalIn 10000 62 (.agg #[.int .i64 p.f0, .int .i64 p.f1, .int .i64 p.f2, .int .u32 p.f3, .int .i64 p.f4, .int .i64 p.f5]) (.agg #[.int .i64 q.f0, .int .i64 q.f1, .int .i64 q.f2, .int .u32 q.f3, .int .i64 q.f4, .int .i64 q.f5])).run Try.prog v = .ok (p.f0 == q.f0 && (p.f1 == q.f1 && (p.f2 == q.f2 && (p.f3 == q.f3 && (p.f4 == q.f4 && (p.f5 == q.f5)))))) v := by
 refine eqA_of (d := 9999) Try.underlying62 (by kernel_rfl) ?_
 refine eqf_cons (by decide) (part_i 3 .i64 Try.underlying3 _ 0 _ rfl v) (part_i 3 .i64 Try.underlying3 _ 0 _ rfl v) (run_equalIn_int v _ 3 .i64 .i64 _ _ Try.underlying3) ?_
 refine eqf_cons (by decide) (part_i 3 .i64 Try.underlying3 _ 1 _ rfl v) (part_i 3 .i64 Try.underlying3 _ 1 _ rfl v) (run_equalIn_int v _ 3 .i64 .i64 _ _ Try.underlying3) ?_
 refine eqf_cons (by decide) (part_i 3 .i64 Try.underlying3 _ 2 _ rfl v) (part_i 3 .i64 Try.underlying3 _ 2 _ rfl v) (run_equalIn_int v _ 3 .i64 .i64 _ _ Try.underlying3) ?_
 refine eqf_cons (by decide) (part_i 27 .u32 Try.underlying27 _ 3 _ rfl v) (part_i 27 .u32 Try.underlying27 _ 3 _ rfl v) (run_equalIn_int v _ 27 .u32 .u32 _ _ Try.underlying27) ?_
 refine eqf_cons (by decide) (part_i 3 .i64 Try.underlying3 _ 4 _ rfl v) (part_i 3 .i64 Try.underlying3 _ 4 _ rfl v) (run_equalIn_int v _ 3 .i64 .i64 _ _ Try.underlying3) ?_
 exact eqf_last (by decide) (part_i 3 .i64 Try.underlying3 _ 5 _ rfl v) (part_i 3 .i64 Try.underlying3 _ 5 _ rfl v) (run_equalIn_int v _ 3 .i64 .i64 _ _ Try.underlying3)
set_option maxHeartbeats 4000000 in
set_option maxRecDepth 100000 in
theorem samemaps_c (A1 A2 : Option Addr) (c1 c2 : Nat) (xs ys : List S85) (hx : xs.length ≤ 1000000) (hy : ys.length ≤ 1000000) (w : World) (hC1 : k85.C w A1 xs.length xs) (hC2 : k85.C w A2 ys.length ys) :
  Calls Try.prog 68 #[.slice A1 xs.length c1, .slice A2 ys.length c2] w fun e w' => (∃ r, e = .returned (.bool r) ∧ (r = true ↔ xs = ys)) ∧ Below w.heap.size w w' := by
 have HC1 := Lib.hid hC1
 have HC2 := Lib.hid hC2
 clear hC1 hC2
 by_cases hl : xs.length = ys.length
 case neg =>
  have hn := nlen xs ys hl
  have hl2 : ((xs.length : Int) != (ys.length : Int)) = true := by simpa using fun e : (xs.length : Int) = ys.length => hl (by omega)
  have HN := Lib.hid hn
  clear hn
  go_enter Try.func68, Try.ntmps68
  go_wp2
  go_ret
  exact ⟨⟨false, rfl, by simpa using HN.out⟩, Below.refl _ _⟩
 have hl2 : (ys.length : Int) = xs.length := by omega
 generalize hly' : ys.length = ly at *
 obtain rfl : ly = xs.length := hl.symm
 go_enter Try.func68, Try.ntmps68
 go_wp2
 go_loopw [5] (fun i wr => ∃ k : Nat, k ≤ xs.length ∧ i = .int .i64 k ∧ Hid (xs.take k = ys.take k) ∧ Hid (Below w.heap.size w wr)) (fun i _ => xs.length - (intOf i).toNat)
 case atStart => exact ⟨0, Nat.zero_le _, rfl, Lib.hid rfl, Lib.hid (Below.refl _ _)⟩
 case round =>
  obtain ⟨k, hk, rfl, HT, HB⟩ := hrel
  by_cases hlt : k < xs.length
  ·have hly : k < ys.length := by omega
   obtain ⟨ad, rfl, d0, d1⟩ := at_T85 (Kd.qn HC1.out HB.out) (k : Int) (by omega) (by omega)
   obtain ⟨ad2, rfl, e0, e1⟩ := at_T85 (Kd.qn HC2.out HB.out) (k : Int) (by omega) (by omega)
   have HE := Lib.hid (fun h : xs[k] = ys[k] => take_eq xs ys k hlt hly HT.out h)
   have HN := Lib.hid (fun h : ¬ xs[k] = ys[k] => ne_at xs ys k hlt hly h)
   rw [← (show qH xs (k : Int) = xs[k] by simp [qH, hlt]), ← (show qH ys (k : Int) = ys[k] by simp [qH, hly])] at HE HN
   simp only [Int.toNat_natCast] at d0 d1 e0 e1
   generalize qH xs (k : Int) = p at *
   generalize qH ys (k : Int) = q at *
   have i0 : (0 : Int) ≤ (k : Int) := by omega
   have i1 : (k : Int) < (xs.length : Int) := by omega
   have hE := fun v => eq_rval p q v
   have hG : Try.prog.eqGuardType Try.prog.depth 85 = false := by kernel_rfl
   have hcase : (p = q ∧ (p.f0 == q.f0 && (p.f1 == q.f1)) = true) ∨ (¬ p = q ∧ (p.f0 == q.f0 && (p.f1 == q.f1)) = false) := by
    by_cases h : (p.f0 == q.f0 && (p.f1 == q.f1)) = true
    ·refine .inl ⟨?_, h⟩
     simp only [Bool.and_eq_true, beq_iff_eq] at h
     cases p
     cases q
     simp only [S85.mk.injEq]
     exact h
    ·exact .inr ⟨fun e => h (by rw [e]; simp), by simpa using h⟩
   rcases hcase with ⟨hpq, hb⟩ | ⟨hpq, hb⟩
   ·simp only [hb] at hE
    have HE' := Lib.hid (HE.out hpq)
    clear HE HN hpq
    go_wp2
    refine qF (by kernel_rfl) (by kernel_rfl) ?_
    intro Sx _ F hF hS
    have z1 := fun s => cellk (hF s) d0
    have yd0 := fun s => cellk (hF s) d0
    have yd1 := fun s => cellk (hF s) d1
    have ye0 := fun s => cellk (hF s) e0
    have ye1 := fun s => cellk (hF s) e1
    repeat (go_big_quiet_step (fail))
    refine wpQuiet_nil ?_
    intro w3 hw3
    obtain ⟨s2, rfl⟩ := hw3
    have HB3 := Lib.hid (bthen HB.out (hF s2))
    clear z1 yd0 yd1 ye0 ye1 hF hS
    generalize F s2 = w3 at *
    go_wp2
    go_roundw
    case rel => exact ⟨k + 1, by omega, by go_num, HE', HB3⟩
    case measure => simp [intOf]; omega
   ·simp only [hb] at hE
    have HN' := Lib.hid (HN.out hpq)
    clear HE HN hpq
    go_wp2
    refine qF (by kernel_rfl) (by kernel_rfl) ?_
    intro Sx _ F hF hS
    have z1 := fun s => cellk (hF s) d0
    have yd0 := fun s => cellk (hF s) d0
    have yd1 := fun s => cellk (hF s) d1
    have ye0 := fun s => cellk (hF s) e0
    have ye1 := fun s => cellk (hF s) e1
    repeat (go_big_quiet_step (fail))
    refine wpQuiet_nil ?_
    intro w3 hw3
    obtain ⟨s2, rfl⟩ := hw3
    have HB3 := Lib.hid (bthen HB.out (hF s2))
    clear z1 yd0 yd1 ye0 ye1 hF hS
    generalize F s2 = w3 at *
    go_wp2
    go_ret
    exact ⟨⟨false, rfl, by simpa using HN'.out⟩, HB3.out⟩
  ·obtain hke : xs.length = k := by omega
   have hT := HT.out
   rw [← hke, List.take_length, List.take_of_length_le (by omega)] at hT
   have HT' := Lib.hid hT
   clear hT HT hke
   go_wp2
   go_ret
   exact ⟨⟨true, rfl, by simpa using HT'.out⟩, HB.out⟩
end Go.Proofs.Ythjgakoofmmloaa

namespace Go.Proofs.Ythjgakoofmmloaa
open Go.RowKit Go.Proofs.YthjgakoofmmloaaW.PrintWords Go.Proofs.Ythjgakoofmmloaa.PNumberDoes
set_option linter.unusedVariables false
set_option linter.unusedSimpArgs false

theorem exit_eq (x y : S65) : x = y ↔ (x.f0 = y.f0 ∧ x.f1 = y.f1 ∧ x.f2 = y.f2 ∧ x.f3 = y.f3 ∧ x.f4 = y.f4) := by
 cases x
 cases y
 simp only [S65.mk.injEq]
theorem inb {a b : Int} (h : ¬ a = b) : (a != b) = true := by simpa using h
theorem iyb {a b : Int} (h : a = b) : (a != b) = false := by simpa using h
def SameR (e : Ending) (G : Prop) : Prop := ∃ r, e = .returned (.bool r) ∧ (r = true ↔ G)
theorem SameR.mk {G : Prop} (r : Bool) (h : r = true ↔ G) : SameR (.returned (.bool r)) G := ⟨r, rfl, h⟩
theorem SameR.no {G : Prop} (h : ¬ G) : SameR (.returned (.bool false)) G := ⟨false, rfl, by simpa using h⟩
theorem SameR.yes {G : Prop} (h : G) : SameR (.returned (.bool true)) G := ⟨true, rfl, by simpa using h⟩
theorem take_all {α : Type} (xs ys : List α) (k : Nat) (hx : xs.length = k) (hy : ys.length = k) (h : xs.take k = ys.take k) : xs = ys := by
 rwa [List.take_of_length_le (by omega), List.take_of_length_le (by omega)] at h
set_option maxHeartbeats 8000000 in
set_option maxRecDepth 100000 in
theorem rsame_eq (A0 A1 A2 B0 B1 B2 : Option Addr) (c0 c1 c2 s0 s1 s2 n0 n1 n2 : Nat) (la : Int) (pa pb : List Int) (oa ob : List S62) (ea eb : List S65)
  (h0 : n0 ≤ 1000000) (h1 : n1 ≤ 1000000) (h2 : n2 ≤ 1000000) (hpa : pa.length = n0) (hpb : pb.length = n0) (hoa : oa.length = n1) (hob : ob.length = n1) (hea : ea.length = n2) (heb : eb.length = n2) (hma : ∀ x ∈ ea, x.f4.length ≤ 1000000) (hmb : ∀ x ∈ eb, x.f4.length ≤ 1000000) (w : World)
  (hA0 : (Kd.int .u32).C w A0 n0 pa) (hA1 : k62.C w A1 n1 oa) (hA2 : k65.C w A2 n2 ea)
  (hB0 : (Kd.int .u32).C w B0 n0 pb) (hB1 : k62.C w B1 n1 ob) (hB2 : k65.C w B2 n2 eb) :
  Calls Try.prog 27 #[.agg #[.slice A0 n0 c0, .slice A1 n1 c1, .slice A2 n2 c2, .int .i64 la], .agg #[.slice B0 n0 s0, .slice B1 n1 s1, .slice B2 n2 s2, .int .i64 la]] w fun e w' =>
   SameR e (pa = pb ∧ oa = ob ∧ ea = eb) ∧ Below w.heap.size w w' := by
 obtain ⟨G, hG⟩ : ∃ G : Prop, G = (pa = pb ∧ oa = ob ∧ ea = eb) := ⟨_, rfl⟩
 rw [← hG]
 have HG := Lib.hid hG
 clear hG
 have HA0 := Lib.hid hA0
 have HA1 := Lib.hid hA1
 have HA2 := Lib.hid hA2
 have HB0 := Lib.hid hB0
 have HB1 := Lib.hid hB1
 have HB2 := Lib.hid hB2
 have HMA := Lib.hid hma
 have HMB := Lib.hid hmb
 have LPA := Lib.hid hpa
 have LPB := Lib.hid hpb
 have LOA := Lib.hid hoa
 have LOB := Lib.hid hob
 have LEA := Lib.hid hea
 have LEB := Lib.hid heb
 clear hA0 hA1 hA2 hB0 hB1 hB2 hma hmb hpa hpb hoa hob hea heb
 go_enter Try.func27, Try.ntmps27
 go_wp2
 have HW0 := Lib.hid (bal (bal (Below.refl w.heap.size w) (.cells #[.slice A0 n0 c0, .slice A1 n1 c1, .slice A2 n2 c2, .int .i64 la] 26)) (.cells #[.slice B0 n0 s0, .slice B1 n1 s1, .slice B2 n2 s2, .int .i64 la] 26))
 have hb0 : ((w.alloc (.cells #[.slice A0 n0 c0, .slice A1 n1 c1, .slice A2 n2 c2, .int .i64 la] 26)).alloc (.cells #[.slice B0 n0 s0, .slice B1 n1 s1, .slice B2 n2 s2, .int .i64 la] 26)).heap[w.heap.size]? = some (.cells #[.slice A0 n0 c0, .slice A1 n1 c1, .slice A2 n2 c2, .int .i64 la] 26 (0, 0)) := qf (qD _ _) _
 have hb1 : ((w.alloc (.cells #[.slice A0 n0 c0, .slice A1 n1 c1, .slice A2 n2 c2, .int .i64 la] 26)).alloc (.cells #[.slice B0 n0 s0, .slice B1 n1 s1, .slice B2 n2 s2, .int .i64 la] 26)).heap[w.heap.size + 1]? = some (.cells #[.slice B0 n0 s0, .slice B1 n1 s1, .slice B2 n2 s2, .int .i64 la] 26 (0, 0)) := by simpa using qD (w.alloc _) _
 generalize (w.alloc (.cells #[.slice A0 n0 c0, .slice A1 n1 c1, .slice A2 n2 c2, .int .i64 la] 26)).alloc (.cells #[.slice B0 n0 s0, .slice B1 n1 s1, .slice B2 n2 s2, .int .i64 la] 26) = W0 at *
 have dd0 : W0.cell? ⟨w.heap.size, 0, none⟩ = some (.slice A0 n0 c0) := by rw [qb hb0]; rfl
 have dd1 : W0.cell? ⟨w.heap.size, 1, none⟩ = some (.slice A1 n1 c1) := by rw [qb hb0]; rfl
 have dd2 : W0.cell? ⟨w.heap.size, 2, none⟩ = some (.slice A2 n2 c2) := by rw [qb hb0]; rfl
 have g0 : W0.cell? ⟨w.heap.size + 1, 0, none⟩ = some (.slice B0 n0 s0) := by rw [qb hb1]; rfl
 have g1 : W0.cell? ⟨w.heap.size + 1, 1, none⟩ = some (.slice B1 n1 s1) := by rw [qb hb1]; rfl
 have g2 : W0.cell? ⟨w.heap.size + 1, 2, none⟩ = some (.slice B2 n2 s2) := by rw [qb hb1]; rfl
 have D0 := Lib.hid dd0
 have D1 := Lib.hid dd1
 have D2 := Lib.hid dd2
 have G0 := Lib.hid g0
 have G1 := Lib.hid g1
 have G2 := Lib.hid g2
 clear hb0 hb1 dd1 dd2 g0 g1 g2
 go_loopw [5] (fun i wr => ∃ k : Nat, k ≤ n0 ∧ i = .int .i64 k ∧ Hid (pa.take k = pb.take k) ∧ Hid (Below W0.heap.size W0 wr)) (fun i _ => n0 - (intOf i).toNat)
 case atStart => exact ⟨0, Nat.zero_le _, rfl, Lib.hid rfl, Lib.hid (Below.refl _ _)⟩
 case round =>
  obtain ⟨k, hk, rfl, HT, HB⟩ := hrel
  have x := cellk HB.out D0.out
  have y := cellk HB.out G0.out
  by_cases hlt : k < n0
  ·have hlx : k < pa.length := by have := LPA.out; omega
   have hly : k < pb.length := by have := LPB.out; omega
   obtain ⟨ad, rfl, d0⟩ := Kd.at_int (Kd.qn (Kd.qn HA0.out HW0.out) HB.out) (k : Int) (by omega) (by omega)
   obtain ⟨ad2, rfl, e0⟩ := Kd.at_int (Kd.qn (Kd.qn HB0.out HW0.out) HB.out) (k : Int) (by omega) (by omega)
   have HE := Lib.hid (fun h : pa[k] = pb[k] => take_eq pa pb k hlx hly HT.out h)
   have HN := Lib.hid (fun h : ¬ pa[k] = pb[k] => ne_at pa pb k hlx hly h)
   rw [← (show rd pa (k : Int) = pa[k] by simp [rd, hlx]), ← (show rd pb (k : Int) = pb[k] by simp [rd, hly])] at HE HN
   simp only [Int.toNat_natCast] at d0 e0
   generalize rd pa (k : Int) = p at *
   generalize rd pb (k : Int) = q at *
   have i0 : (0 : Int) ≤ (k : Int) := by omega
   have i1 : (k : Int) < (n0 : Int) := by omega
   have hcase : (p = q ∧ (p != q) = false) ∨ (¬ p = q ∧ (p != q) = true) := by
    by_cases h : p = q
    ·exact .inl ⟨h, by simpa using h⟩
    ·exact .inr ⟨h, by simpa using h⟩
   rcases hcase with ⟨hpq, hb⟩ | ⟨hpq, hb⟩
   ·skip
    have HE' := Lib.hid (HE.out hpq)
    clear HE HN hpq hlx hly
    go_wp2
    refine qF (by kernel_rfl) (by kernel_rfl) ?_
    intro Sx _ F hF hS
    have yd0 := fun s => cellk (hF s) d0
    have ye0 := fun s => cellk (hF s) e0
    have yx := fun s => cellk (hF s) x
    have yy := fun s => cellk (hF s) y
    repeat (go_big_quiet_step (fail))
    refine wpQuiet_nil ?_
    intro w3 hw3
    obtain ⟨sx, rfl⟩ := hw3
    have HB3 := Lib.hid (bthen HB.out (hF sx))
    clear yd0 ye0 yx yy hF hS
    generalize F sx = w3 at *
    go_wp2
    go_roundw
    case rel => exact ⟨k + 1, by omega, by go_num, HE', HB3⟩
    case measure => simp [intOf]; omega
   ·skip
    have HN' := Lib.hid (HN.out hpq)
    clear HE HN hpq hlx hly
    go_wp2
    refine qF (by kernel_rfl) (by kernel_rfl) ?_
    intro Sx _ F hF hS
    have yd0 := fun s => cellk (hF s) d0
    have ye0 := fun s => cellk (hF s) e0
    have yx := fun s => cellk (hF s) x
    have yy := fun s => cellk (hF s) y
    repeat (go_big_quiet_step (fail))
    refine wpQuiet_nil ?_
    intro w3 hw3
    obtain ⟨sx, rfl⟩ := hw3
    have HB3 := Lib.hid (bthen HB.out (hF sx))
    clear yd0 ye0 yx yy hF hS
    generalize F sx = w3 at *
    go_wp2
    go_ret
    exact ⟨SameR.no (by rw [HG.out]; exact fun h => HN'.out h.1), bthen HW0.out HB3.out⟩
  ·have hke : n0 = k := by omega
   have HQ0 := Lib.hid (take_all pa pb k (by rw [LPA.out]; exact hke) (by rw [LPB.out]; exact hke) HT.out)
   clear HT hke
   have HBP := HB
   go_wp2
   clear x y HB
   go_loopw [6] (fun i wr => ∃ k : Nat, k ≤ n1 ∧ i = .int .i64 k ∧ Hid (oa.take k = ob.take k) ∧ Hid (Below W0.heap.size W0 wr)) (fun i _ => n1 - (intOf i).toNat)
   case atStart => exact ⟨0, Nat.zero_le _, rfl, Lib.hid rfl, HBP⟩
   case round =>
    obtain ⟨k, hk, rfl, HT, HB⟩ := hrel
    have x := cellk HB.out D1.out
    have y := cellk HB.out G1.out
    by_cases hlt : k < n1
    ·have hlx : k < oa.length := by have := LOA.out; omega
     have hly : k < ob.length := by have := LOB.out; omega
     obtain ⟨ad, rfl, d0, d1, d2, d3, d4, d5⟩ := at_T62 (Kd.qn (Kd.qn HA1.out HW0.out) HB.out) (k : Int) (by omega) (by omega)
     obtain ⟨ad2, rfl, e0, e1, e2, e3, e4, e5⟩ := at_T62 (Kd.qn (Kd.qn HB1.out HW0.out) HB.out) (k : Int) (by omega) (by omega)
     have HE := Lib.hid (fun h : oa[k] = ob[k] => take_eq oa ob k hlx hly HT.out h)
     have HN := Lib.hid (fun h : ¬ oa[k] = ob[k] => ne_at oa ob k hlx hly h)
     rw [← (show qk oa (k : Int) = oa[k] by simp [qk, hlx]), ← (show qk ob (k : Int) = ob[k] by simp [qk, hly])] at HE HN
     simp only [Int.toNat_natCast] at d0 d1 d2 d3 d4 d5 e0 e1 e2 e3 e4 e5
     generalize qk oa (k : Int) = p at *
     generalize qk ob (k : Int) = q at *
     have i0 : (0 : Int) ≤ (k : Int) := by omega
     have i1 : (k : Int) < (n1 : Int) := by omega
     have hE := fun v => eq_rop p q v
     have hG : Try.prog.eqGuardType Try.prog.depth 62 = false := by kernel_rfl
     have hcase : (p = q ∧ (p.f0 == q.f0 && (p.f1 == q.f1 && (p.f2 == q.f2 && (p.f3 == q.f3 && (p.f4 == q.f4 && (p.f5 == q.f5)))))) = true) ∨ (¬ p = q ∧ (p.f0 == q.f0 && (p.f1 == q.f1 && (p.f2 == q.f2 && (p.f3 == q.f3 && (p.f4 == q.f4 && (p.f5 == q.f5)))))) = false) := by
      by_cases h : (p.f0 == q.f0 && (p.f1 == q.f1 && (p.f2 == q.f2 && (p.f3 == q.f3 && (p.f4 == q.f4 && (p.f5 == q.f5)))))) = true
      ·refine .inl ⟨?_, h⟩
       simp only [Bool.and_eq_true, beq_iff_eq] at h
       cases p
       cases q
       simp only [S62.mk.injEq]
       exact h
      ·exact .inr ⟨fun e => h (by rw [e]; simp), by simpa using h⟩
     rcases hcase with ⟨hpq, hb⟩ | ⟨hpq, hb⟩
     ·simp only [hb] at hE
      have HE' := Lib.hid (HE.out hpq)
      clear HE HN hpq hlx hly
      go_wp2
      refine qF (by kernel_rfl) (by kernel_rfl) ?_
      intro Sx _ F hF hS
      have yd0 := fun s => cellk (hF s) d0
      have yd1 := fun s => cellk (hF s) d1
      have yd2 := fun s => cellk (hF s) d2
      have yd3 := fun s => cellk (hF s) d3
      have yd4 := fun s => cellk (hF s) d4
      have yd5 := fun s => cellk (hF s) d5
      have ye0 := fun s => cellk (hF s) e0
      have ye1 := fun s => cellk (hF s) e1
      have ye2 := fun s => cellk (hF s) e2
      have ye3 := fun s => cellk (hF s) e3
      have ye4 := fun s => cellk (hF s) e4
      have ye5 := fun s => cellk (hF s) e5
      have yx := fun s => cellk (hF s) x
      have yy := fun s => cellk (hF s) y
      repeat (go_big_quiet_step (fail))
      refine wpQuiet_nil ?_
      intro w3 hw3
      obtain ⟨sx, rfl⟩ := hw3
      have HB3 := Lib.hid (bthen HB.out (hF sx))
      clear yd0 yd1 yd2 yd3 yd4 yd5 ye0 ye1 ye2 ye3 ye4 ye5 yx yy hF hS
      generalize F sx = w3 at *
      go_wp2
      go_roundw
      case rel => exact ⟨k + 1, by omega, by go_num, HE', HB3⟩
      case measure => simp [intOf]; omega
     ·simp only [hb] at hE
      have HN' := Lib.hid (HN.out hpq)
      clear HE HN hpq hlx hly
      go_wp2
      refine qF (by kernel_rfl) (by kernel_rfl) ?_
      intro Sx _ F hF hS
      have yd0 := fun s => cellk (hF s) d0
      have yd1 := fun s => cellk (hF s) d1
      have yd2 := fun s => cellk (hF s) d2
      have yd3 := fun s => cellk (hF s) d3
      have yd4 := fun s => cellk (hF s) d4
      have yd5 := fun s => cellk (hF s) d5
      have ye0 := fun s => cellk (hF s) e0
      have ye1 := fun s => cellk (hF s) e1
      have ye2 := fun s => cellk (hF s) e2
      have ye3 := fun s => cellk (hF s) e3
      have ye4 := fun s => cellk (hF s) e4
      have ye5 := fun s => cellk (hF s) e5
      have yx := fun s => cellk (hF s) x
      have yy := fun s => cellk (hF s) y
      repeat (go_big_quiet_step (fail))
      refine wpQuiet_nil ?_
      intro w3 hw3
      obtain ⟨sx, rfl⟩ := hw3
      have HB3 := Lib.hid (bthen HB.out (hF sx))
      clear yd0 yd1 yd2 yd3 yd4 yd5 ye0 ye1 ye2 ye3 ye4 ye5 yx yy hF hS
      generalize F sx = w3 at *
      go_wp2
      go_ret
      exact ⟨SameR.no (by rw [HG.out]; exact fun h => HN'.out h.2.1), bthen HW0.out HB3.out⟩
    ·have hke : n1 = k := by omega
     have HQ1 := Lib.hid (take_all oa ob k (by rw [LOA.out]; exact hke) (by rw [LOB.out]; exact hke) HT.out)
     clear HT hke
     have HBP := HB
     have d2' := cellk HBP.out D2.out
     go_wp2
     clear x y HB
     go_loopw [7] (fun i wr => ∃ k : Nat, k ≤ n2 ∧ i = .int .i64 k ∧ Hid (ea.take k = eb.take k) ∧ Hid (Below W0.heap.size W0 wr)) (fun i _ => n2 - (intOf i).toNat)
     case atStart => exact ⟨0, Nat.zero_le _, rfl, Lib.hid rfl, HBP⟩
     case round =>
      clear HBP d2' hlt hk
      obtain ⟨k, hk, rfl, HT, HB⟩ := hrel
      have x := cellk HB.out D2.out
      have y := cellk HB.out G2.out
      by_cases hlt : k < n2
      ·have hlx : k < ea.length := by have := LEA.out; omega
       have hly : k < eb.length := by have := LEB.out; omega
       obtain ⟨ad, M1, m1, rfl, d0, d1, d2, d3, d4, l1, k1⟩ := at_T65 (Kd.qn (Kd.qn HA2.out HW0.out) HB.out) (k : Int) (by omega) (by omega)
       obtain ⟨ad2, M2, m2, rfl, e0, e1, e2, e3, e4, l2, k2⟩ := at_T65 (Kd.qn (Kd.qn HB2.out HW0.out) HB.out) (k : Int) (by omega) (by omega)
       have HE := Lib.hid (fun h : ea[k] = eb[k] => take_eq ea eb k hlx hly HT.out h)
       have HN := Lib.hid (fun h : ¬ ea[k] = eb[k] => ne_at ea eb k hlx hly h)
       have hm1 := HMA.out _ (List.getElem_mem hlx)
       have hm2 := HMB.out _ (List.getElem_mem hly)
       rw [← (show qj ea (k : Int) = ea[k] by simp [qj, hlx]), ← (show qj eb (k : Int) = eb[k] by simp [qj, hly])] at HE HN
       rw [← (show qj ea (k : Int) = ea[k] by simp [qj, hlx])] at hm1
       rw [← (show qj eb (k : Int) = eb[k] by simp [qj, hly])] at hm2
       simp only [Int.toNat_natCast] at d0 d1 d2 d3 d4 e0 e1 e2 e3 e4
       generalize qj ea (k : Int) = p at *
       generalize qj eb (k : Int) = q at *
       have HSM := Lib.hid (fun v (hb : Below wr.heap.size wr v) => samemaps_c M1 M2 m1 m2 p.f4 q.f4 hm1 hm2 v (Kd.qn k1 hb) (Kd.qn k2 hb))
       have HK := Lib.hid (exit_eq p q)
       have i0 : (0 : Int) ≤ (k : Int) := by omega
       have i1 : (k : Int) < (n2 : Int) := by omega
       have ha2 : (ad2.add (k * 5)).block < wr.heap.size := World.block_lt_of_cell? wr _ e0
       have hn2 : ¬ (ad2.add (k * 5)).block = wr.heap.size := by omega
       have ww := World.block_lt_of_cell? wr _ y
       have wn : ¬ w.heap.size + 1 = wr.heap.size := by simp at ww; omega
       clear k1 k2 hlx hly
       by_cases q0 : p.f0 = q.f0
       case neg =>
        have HN' := Lib.hid (HN.out (fun h => q0 ((exit_eq p q).1 h).1))
        have t0 := inb q0
        clear HE HN HSM HK
        go_wp2
        go_ret
        exact ⟨SameR.no (by rw [HG.out]; exact fun h => HN'.out h.2.2), bthen HW0.out (bal (bal HB.out _) _)⟩
       have t0 := iyb q0
       by_cases q1 : p.f1 = q.f1
       case neg =>
        have HN' := Lib.hid (HN.out (fun h => q1 ((exit_eq p q).1 h).2.1))
        have t1 := inb q1
        clear HE HN HSM HK
        go_wp2
        go_ret
        exact ⟨SameR.no (by rw [HG.out]; exact fun h => HN'.out h.2.2), bthen HW0.out (bal (bal HB.out _) _)⟩
       have t1 := iyb q1
       by_cases q2 : p.f2 = q.f2
       case neg =>
        have HN' := Lib.hid (HN.out (fun h => q2 ((exit_eq p q).1 h).2.2.1))
        have t2 := inb q2
        clear HE HN HSM HK
        go_wp2
        go_ret
        exact ⟨SameR.no (by rw [HG.out]; exact fun h => HN'.out h.2.2), bthen HW0.out (bal (bal HB.out _) _)⟩
       have t2 := iyb q2
       by_cases q3 : p.f3 = q.f3
       case neg =>
        have HN' := Lib.hid (HN.out (fun h => q3 ((exit_eq p q).1 h).2.2.2.1))
        have t3 := inb q3
        clear HE HN HSM HK
        go_wp2
        go_ret
        exact ⟨SameR.no (by rw [HG.out]; exact fun h => HN'.out h.2.2), bthen HW0.out (bal (bal HB.out _) _)⟩
       have t3 := iyb q3
       have Q0 := Lib.hid (And.intro q0 (And.intro q1 (And.intro q2 q3)))
       clear q0 q1 q2 q3
       go_wp2_with fail
       refine (HSM.out _ (bal (bal (Below.refl _ _) _) _)).mono ?_
       rintro e w3 ⟨⟨r, rfl, hr⟩, hb3⟩
       have HB3 := Lib.hid (bthen (bal (bal HB.out _) _) hb3)
       have HR := Lib.hid hr
       clear hb3 hr
       cases r
       ·have HN' := Lib.hid (HN.out (fun h => by have := HR.out.2 ((HK.out.1 h).2.2.2.2); cases this))
        clear HE HN HSM HK
        go_wp2
        go_ret
        exact ⟨SameR.no (by rw [HG.out]; exact fun h => HN'.out h.2.2), bthen HW0.out HB3.out⟩
       ·have HE' := Lib.hid (HE.out (HK.out.2 ⟨Q0.out.1, Q0.out.2.1, Q0.out.2.2.1, Q0.out.2.2.2, HR.out.1 rfl⟩))
        clear HE HN HSM HK
        go_wp2
        go_roundw
        case rel => exact ⟨k + 1, by omega, by go_num, HE', HB3⟩
        case measure => simp [intOf]; omega
      ·have hke : n2 = k := by omega
       have HQ2 := Lib.hid (take_all ea eb k (by rw [LEA.out]; exact hke) (by rw [LEB.out]; exact hke) HT.out)
       clear HT hke
       go_wp2
       go_ret
       exact ⟨SameR.yes (by rw [HG.out]; exact ⟨HQ0.out, HQ1.out, HQ2.out⟩), bthen HW0.out HB.out⟩
end Go.Proofs.Ythjgakoofmmloaa

namespace Go.Proofs.Ythjgakoofmmloaa
open Go.RowKit Go.Proofs.YthjgakoofmmloaaW.PrintWords Go.Proofs.Ythjgakoofmmloaa.PNumberDoes
set_option linter.unusedVariables false
set_option linter.unusedSimpArgs false

set_option maxHeartbeats 8000000 in
set_option maxRecDepth 100000 in
theorem rsame_c (A0 A1 A2 B0 B1 B2 : Option Addr) (c0 c1 c2 s0 s1 s2 : Nat) (la lb : Int) (pa pb : List Int) (oa ob : List S62) (ea eb : List S65)
  (hp : pa.length ≤ 1000000) (ho : oa.length ≤ 1000000) (he : ea.length ≤ 1000000) (hma : ∀ x ∈ ea, x.f4.length ≤ 1000000) (hmb : ∀ x ∈ eb, x.f4.length ≤ 1000000) (w : World)
  (hA0 : (Kd.int .u32).C w A0 pa.length pa) (hA1 : k62.C w A1 oa.length oa) (hA2 : k65.C w A2 ea.length ea)
  (hB0 : (Kd.int .u32).C w B0 pb.length pb) (hB1 : k62.C w B1 ob.length ob) (hB2 : k65.C w B2 eb.length eb) :
  Calls Try.prog 27 #[.agg #[.slice A0 pa.length c0, .slice A1 oa.length c1, .slice A2 ea.length c2, .int .i64 la], .agg #[.slice B0 pb.length s0, .slice B1 ob.length s1, .slice B2 eb.length s2, .int .i64 lb]] w fun e w' =>
   SameR e (la = lb ∧ pa = pb ∧ oa = ob ∧ ea = eb) ∧ Below w.heap.size w w' := by
 by_cases heq : la = lb ∧ pa.length = pb.length ∧ oa.length = ob.length ∧ ea.length = eb.length
 ·obtain ⟨rfl, q1, q2, q3⟩ := heq
  have := rsame_eq A0 A1 A2 B0 B1 B2 c0 c1 c2 s0 s1 s2 pa.length oa.length ea.length la pa pb oa ob ea eb hp ho he rfl q1.symm rfl q2.symm rfl q3.symm hma hmb w hA0 hA1 hA2 (q1 ▸ hB0) (q2 ▸ hB1) (q3 ▸ hB2)
  rw [q1, q2, q3] at this
  rw [q1, q2, q3]
  refine this.mono ?_
  rintro e w' ⟨hr, hb⟩
  refine ⟨?_, hb⟩
  simpa using hr
 obtain ⟨G, hG⟩ : ∃ G : Prop, G = (la = lb ∧ pa = pb ∧ oa = ob ∧ ea = eb) := ⟨_, rfl⟩
 rw [← hG]
 have HN := Lib.hid (show ¬ G by rw [hG]; rintro ⟨h0, h1, h2, h3⟩; exact heq ⟨h0, by rw [h1], by rw [h2], by rw [h3]⟩)
 have HQ := Lib.hid heq
 clear hG heq hA0 hA1 hA2 hB0 hB1 hB2 hma hmb
 generalize pa.length = x0 at *
 generalize pb.length = y0 at *
 generalize oa.length = x1 at *
 generalize ob.length = y1 at *
 generalize ea.length = x2 at *
 generalize eb.length = y2 at *
 have HC : (la != lb) = true ∨ ((la != lb) = false ∧ (((x0 : Int) != (y0 : Int)) = true ∨ (((x0 : Int) != (y0 : Int)) = false ∧ (((x1 : Int) != (y1 : Int)) = true ∨ (((x1 : Int) != (y1 : Int)) = false ∧ ((x2 : Int) != (y2 : Int)) = true))))) := by
  by_cases a : la = lb
  ·refine .inr ⟨iyb a, ?_⟩
   by_cases b : x0 = y0
   ·refine .inr ⟨iyb (by omega), ?_⟩
    by_cases c : x1 = y1
    ·exact .inr ⟨iyb (by omega), inb (fun h => HQ.out ⟨a, b, c, by omega⟩)⟩
    ·exact .inl (inb (by omega))
   ·exact .inl (inb (by omega))
  ·exact .inl (inb a)
 clear HQ
 rcases HC with t0 | ⟨t0, t1 | ⟨t1, t2 | ⟨t2, t3⟩⟩⟩
 all_goals
  go_enter Try.func27, Try.ntmps27
  go_wp2
  go_ret
  exact ⟨SameR.no HN.out, bal (bal (Below.refl _ _) _) _⟩
noncomputable def decG (G : Prop) : Bool := @decide G (Classical.propDecidable G)
theorem decG_yes {G : Prop} (h : G) : decG G = true := @decide_eq_true G (Classical.propDecidable G) h
theorem decG_no {G : Prop} (h : ¬ G) : decG G = false := @decide_eq_false G (Classical.propDecidable G) h
theorem SameR.dec {e : Ending} {G : Prop} (h : SameR e G) : e = .returned (.bool (decG G)) := by
 obtain ⟨r, rfl, hr⟩ := h
 by_cases g : G
 ·rw [decG_yes g, hr.2 g]
 ·rw [decG_no g]
  cases r
  ·rfl
  ·exact absurd (hr.1 rfl) g
structure SmallB (B : BlkV) : Prop where
 p : B.pcs.length ≤ 1000000
 o : B.ops.length ≤ 1000000
 e : B.exits.length ≤ 1000000
 m : ∀ x ∈ B.exits, x.f4.length ≤ 1000000
end Go.Proofs.Ythjgakoofmmloaa
