/- The walk of the law GuardOthers: it returns true. Conditions: the words are words. -/
import Derived.Test.YthjgakoofmmloaaZYGh
import Derived.Test.YthjgakoofmmloaaZYCz
import Derived.Test.YthjgakoofmmloaaZYTz
namespace Go.Proofs.Ythjgakoofmmloaa
open Go.RowKit Go.Proofs.YthjgakoofmmloaaW.PrintWords Go.Proofs.YthjgakoofmmloaaW.PrintLast Go.Proofs.YthjgakoofmmloaaW.PrintMore Go.Proofs.Ythjgakoofmmloaa.PNumberDoes
set_option linter.unusedVariables false
set_option linter.unusedSimpArgs false

set_option maxHeartbeats 8000000 in
set_option maxRecDepth 100000 in
theorem gddo_yes (B : BlkV) (g : Nat) (w : World) (hB : BlockAt w g B) (hM : Maps B) (sB : SmallB B) (h : checkB B = 0) :
  Calls Try.prog 36 #[.pointer (some ⟨g, 0, none⟩)] w fun e w' => (∃ gc, e = .returned (.tuple #[.pointer (some ⟨gc, 0, none⟩), .int .i64 0]) ∧ BlockAt w' gc (guardB B)) ∧ Below w.heap.size w w' := by
 have hR := rightG_of h
 have HR := Lib.hid hR
 have HCK := Lib.hid (check_c B g w hB hM sB.p sB.o sB.e)
 obtain ⟨A0, c0, pc0, k0⟩ := hB.pcs
 have HC0 := Lib.hid k0
 have HP0 := Lib.hid sB.p
 have HBB := Lib.hid hB
 have HSB := Lib.hid sB
 rw [h] at HCK
 clear hM sB k0 hR h hB
 go_enter Try.func36, Try.ntmps36
 go_wp2_with fail
 refine HCK.out.mono ?_
 rintro e w1 ⟨rfl, hb1⟩
 have pc1 := cellk hb1 pc0
 have HK1 := Lib.hid (clone_u A0 c0 B.pcs.length B.pcs HP0.out w1 (Kd.qn HC0.out hb1))
 have HB1 := Lib.hid hb1
 clear hb1 HCK pc0 HC0
 go_wp2_with fail
 refine HK1.out.mono ?_
 rintro e w2 ⟨⟨v, rfl, hr⟩, hb2⟩
 obtain ⟨A3, c3, rfl⟩ := Kd.R_slice hr
 have HB2 := Lib.hid (bthen HB1.out hb2)
 have hr1 := Kd.R_lower hr HB1.out.size
 have HG := Lib.hid (show GdS w.heap.size B ((w2.alloc (.cells #[.slice A3 B.pcs.length c3, .slice none 0 0, .slice none 0 0, .int .i64 0] 76)).alloc (.cells #[.pointer (some ⟨w2.heap.size, 0, none⟩), .slice none 0 0] 112)) (w2.heap.size + 1) w2.heap.size (.slice A3 B.pcs.length c3) (.slice none 0 0) [] [] (.slice none 0 0) from
  ⟨by simpa using qD (w2.alloc _) _, qf (qD _ _) _, by have := HB2.out.size; omega, HB2.out.size, Kd.qO hr1 (bal (bal (Below.refl _ _) _) _), Kd.R_nil _ _ _ _ _, Kd.R_nil _ _ _ _ _⟩)
 have HBW := Lib.hid (show Below w.heap.size w ((w2.alloc (.cells #[.slice A3 B.pcs.length c3, .slice none 0 0, .slice none 0 0, .int .i64 0] 76)).alloc (.cells #[.pointer (some ⟨w2.heap.size, 0, none⟩), .slice none 0 0] 112)) from bal (bal HB2.out _) _)
 have HT := Lib.hid (gdthrough_c B HR.out g (w2.heap.size + 1) w2.heap.size (.slice A3 B.pcs.length c3) w _ HBB.out HBW.out HG.out)
 clear hr hr1 hb2 HB1 HK1 HB2 HG HBW
 generalize hgs : w2.heap.size + 1 = gs at *
 go_wp2_with fail
 refine HT.out.mono ?_
 rintro e w3 ⟨⟨rfl, vt, v1, HG⟩, hb3⟩
 have HX := Lib.hid (gdexits_c B (runP B.last B.ops) (exOk_of HR.out) HSB.out g gs w2.heap.size (.slice A3 B.pcs.length c3) vt v1 w w3 HBB.out hb3 HG.out)
 clear HT hb3 HG
 go_wp2_with fail
 refine HX.out.mono ?_
 rintro e w4 ⟨⟨rfl, HFB, s0⟩, hb4⟩
 have HB4 := Lib.hid hb4
 clear hb4 HX
 go_wp2
 go_ret2
 exact ⟨⟨_, rfl, HFB.out⟩, HB4.out⟩
theorem manyN_take (l : List S67) (k : Nat) (h : k < l.length) : manyN (l.take (k + 1)) = manyN (l.take k) + (if l[k].f0 = 6 then 1 else 0) := by
 rw [List.take_succ_eq_append_getElem h, manyN_add]
set_option maxHeartbeats 4000000 in
set_option maxRecDepth 100000 in
theorem gdmany_c (B : BlkV) (g : Nat) (w : World) (hB : BlockAt w g B) (hM : Maps B) (hP : B.pcs.length ≤ 1000000) (hO : B.ops.length ≤ 1000000) (hE : B.exits.length ≤ 1000000) :
  Calls Try.prog 40 #[.pointer (some ⟨g, 0, none⟩)] w fun e w' => e = .returned (.int .i64 (if checkB B = 0 then (manyN B.ops : Int) else 0)) ∧ Below w.heap.size w w' := by
 have HCK := Lib.hid (check_c B g w hB hM hP hO hE)
 obtain ⟨A1, c1, u1, k1⟩ := hB.ops
 have HC := Lib.hid k1
 clear hB hM hP hE k1
 by_cases h : checkB B = 0
 ·rw [h] at HCK
  rw [if_pos h]
  clear h
  go_enter Try.func40, Try.ntmps40
  go_wp2_with fail
  refine HCK.out.mono ?_
  rintro e w1 ⟨rfl, hb1⟩
  have p1 := cellk hb1 u1
  have HB1 := Lib.hid hb1
  have HC1 := Lib.hid (Kd.qn HC.out hb1)
  clear hb1 HCK HC u1
  go_wp2
  go_loopw [3, 14] (fun n i wr => ∃ k : Nat, k ≤ B.ops.length ∧ i = .int .i64 k ∧ ∃ m : Nat, n = .int .i64 m ∧ m ≤ k ∧ Hid (m = manyN (B.ops.take k)) ∧ Hid (Below w1.heap.size w1 wr)) (fun _ i _ => B.ops.length - (intOf i).toNat)
  case atStart => exact ⟨0, Nat.zero_le _, rfl, 0, rfl, Nat.le_refl _, Lib.hid rfl, Lib.hid (Below.refl _ _)⟩
  case round =>
   obtain ⟨k, hk, rfl, m, rfl, hmk, HM, HB⟩ := hrel
   by_cases hlt : k < B.ops.length
   ·obtain ⟨ad, rfl, d0, d1, d2, d3, d4, d5⟩ := at_T67 (Kd.qn HC1.out HB.out) (k : Int) (by omega) (by omega)
    have hq : qz B.ops (k : Int) = B.ops[k] := by simp [qz, hlt]
    have ht := manyN_take B.ops k hlt
    rw [← hq, ← HM.out] at ht
    simp only [Int.toNat_natCast] at d0 d1 d2 d3 d4 d5
    clear hq HM
    generalize qz B.ops (k : Int) = o at *
    by_cases h6 : o.f0 = 6
    ·have t6 : (o.f0 == 6) = true := beq_iff_eq.2 h6
     rw [if_pos h6] at ht
     have HT := Lib.hid ht.symm
     clear h6 ht
     go_wp2
     go_roundw
     case rel => exact ⟨k + 1, by omega, by go_num, m + 1, by go_num, by omega, HT, Lib.hid (by repeat (first | (with_reducible exact HB.out) | (with_reducible refine bal ?_ _)))⟩
     case measure => simp [intOf]; omega
    ·have t6 : (o.f0 == 6) = false := beq_eq_false_iff_ne.2 h6
     rw [if_neg h6] at ht
     have HT := Lib.hid ht.symm
     clear h6 ht
     go_wp2
     go_roundw
     case rel => exact ⟨k + 1, by omega, by go_num, m, rfl, by omega, HT, Lib.hid (by repeat (first | (with_reducible exact HB.out) | (with_reducible refine bal ?_ _)))⟩
     case measure => simp [intOf]; omega
   ·have hke : k = B.ops.length := by omega
    subst hke
    have hm := HM.out
    rw [List.take_length] at hm
    have HM2 := Lib.hid hm
    clear hm
    go_wp2
    go_ret
    exact ⟨by rw [HM2.out]; rfl, bthen HB1.out HB.out⟩
 ·have t : (checkB B != 0) = true := bne_iff_ne.2 h
  rw [if_neg h]
  generalize checkB B = ck at *
  clear h
  go_enter Try.func40, Try.ntmps40
  go_wp2_with fail
  refine HCK.out.mono ?_
  rintro e w1 ⟨rfl, hb1⟩
  have HB1 := Lib.hid hb1
  clear hb1
  go_wp2
  go_ret
  exact ⟨rfl, HB1.out⟩
end Go.Proofs.Ythjgakoofmmloaa

namespace Go.Proofs.Ythjgakoofmmloaa
open Go.RowKit Go.Proofs.YthjgakoofmmloaaW.PrintWords Go.Proofs.YthjgakoofmmloaaW.PrintLast Go.Proofs.YthjgakoofmmloaaW.PrintMore Go.Proofs.Ythjgakoofmmloaa.PNumberDoes
set_option linter.unusedVariables false
set_option linter.unusedSimpArgs false

theorem C_of_reps {α : Type} {d : Kd α} {w : World} {g t : Nat} {cs : List Value} {xs : List α} (hb : w.heap[g]? = some (.cells cs.toArray t (0, 0))) (hr : Reps (d.K w) d.sz xs cs) (hl : xs.length ≤ 9223372036854775807) : d.C w (some ⟨g, 0, none⟩) xs.length xs := by
 refine ⟨rfl, hl, fun _ => ⟨_, rfl, fun j p hj => ⟨(cs.drop (j * d.sz)).take d.sz, d.K_len (hr.2 j p hj), hr.2 j p hj, fun i u hu => ?_⟩⟩⟩
 have h2 : cs[j * d.sz + i]? = some u := by
  rw [List.getElem?_take] at hu
  split at hu
  ·rwa [List.getElem?_drop] at hu
  ·cases hu
 rw [qI, qb hb, List.getElem?_toArray]
 exact h2
def Bax : BlkV := ⟨[0], [⟨2, 0, 0, 1, 0, 0⟩, ⟨2, 0, 0, 2, 0, 0⟩, ⟨6, 0, 1, 5, 0, 0⟩], [⟨1, 0, -1, 3, []⟩, ⟨1, 0, -1, 4, []⟩], 1⟩
def awA (w : World) : World := w.alloc (.cells #[.int .u32 0] 27)
def awB (w : World) : World := (awA w).alloc (.cells #[.int .i64 2, .int .i64 0, .int .i64 0, .int .u32 1, .int .i64 0, .int .i64 0, .int .i64 2, .int .i64 0, .int .i64 0, .int .u32 2, .int .i64 0, .int .i64 0, .int .i64 6, .int .i64 0, .int .i64 1, .int .u32 5, .int .i64 0, .int .i64 0] 67)
def awD (w : World) : World := (awB w).alloc (.cells #[.int .i64 1, .int .u32 0, .int .i64 (-1), .int .i64 3, .slice none 0 0, .int .i64 1, .int .u32 0, .int .i64 (-1), .int .i64 4, .slice none 0 0] 73)
def awE (w : World) : World := (awD w).alloc (.cells #[.slice (some ⟨w.heap.size, 0, none⟩) 1 1, .slice (some ⟨w.heap.size + 1, 0, none⟩) 3 3, .slice (some ⟨w.heap.size + 1 + 1, 0, none⟩) 2 2, .int .i64 1] 76)
theorem alloc_size (w : World) (o : Obj) : (w.alloc o).heap.size = w.heap.size + 1 := by simp
theorem aw_sizes (w : World) : (awA w).heap.size = w.heap.size + 1 ∧ (awB w).heap.size = w.heap.size + 1 + 1 ∧ (awD w).heap.size = w.heap.size + 1 + 1 + 1 := by
 refine ⟨?_, ?_, ?_⟩
 ·rw [awA, alloc_size]
 ·rw [awB, alloc_size, awA, alloc_size]
 ·rw [awD, alloc_size, awB, alloc_size, awA, alloc_size]
theorem aw_below (w : World) : Below w.heap.size w (awE w) := bal (bal (bal (bal (Below.refl _ _) _) _) _) _
theorem aw_block (w : World) : BlockAt (awE w) (w.heap.size + 1 + 1 + 1) Bax := by
 obtain ⟨z1, z2, z4⟩ := aw_sizes w
 have b0 : (awE w).heap[w.heap.size]? = some (.cells [.int .u32 0].toArray 27 (0, 0)) := qf (qf (qf (qD _ _) _) _) _
 have b1 : (awE w).heap[w.heap.size + 1]? = some (.cells [.int .i64 2, .int .i64 0, .int .i64 0, .int .u32 1, .int .i64 0, .int .i64 0, .int .i64 2, .int .i64 0, .int .i64 0, .int .u32 2, .int .i64 0, .int .i64 0, .int .i64 6, .int .i64 0, .int .i64 1, .int .u32 5, .int .i64 0, .int .i64 0].toArray 67 (0, 0)) := by
  rw [← z1]
  exact qf (qf (qD _ _) _) _
 have b3 : (awE w).heap[w.heap.size + 1 + 1]? = some (.cells [.int .i64 1, .int .u32 0, .int .i64 (-1), .int .i64 3, .slice none 0 0, .int .i64 1, .int .u32 0, .int .i64 (-1), .int .i64 4, .slice none 0 0].toArray 73 (0, 0)) := by
  rw [← z2]
  exact qf (qD _ _) _
 have b4 : (awE w).heap[w.heap.size + 1 + 1 + 1]? = some (.cells [.slice (some ⟨w.heap.size, 0, none⟩) 1 1, .slice (some ⟨w.heap.size + 1, 0, none⟩) 3 3, .slice (some ⟨w.heap.size + 1 + 1, 0, none⟩) 2 2, .int .i64 1].toArray 76 (0, 0)) := by
  rw [← z4]
  exact qD _ _
 generalize awE w = V at *
 refine ⟨⟨_, 1, by rw [qb b4]; rfl, C_of_reps (xs := [0]) b0 ?_ (by decide)⟩, ⟨_, 3, by rw [qb b4]; rfl, C_of_reps (xs := ([⟨2, 0, 0, 1, 0, 0⟩, ⟨2, 0, 0, 2, 0, 0⟩, ⟨6, 0, 1, 5, 0, 0⟩] : List S67)) b1 ?_ (by decide)⟩, ⟨_, 2, by rw [qb b4]; rfl, C_of_reps (xs := ([⟨1, 0, -1, 3, []⟩, ⟨1, 0, -1, 4, []⟩] : List S73)) b3 ?_ (by decide)⟩, by rw [qb b4]; rfl⟩
 ·exact (Reps.none _ _).snoc (p := (0 : Int)) (c := [.int .u32 0]) rfl rfl
 ·exact (((Reps.none _ _).snoc (k67_mk V ⟨2, 0, 0, 1, 0, 0⟩) rfl).snoc (k67_mk V ⟨2, 0, 0, 2, 0, 0⟩) rfl).snoc (k67_mk V ⟨6, 0, 1, 5, 0, 0⟩) rfl
 ·exact ((Reps.none _ _).snoc (k73_mk V ⟨1, 0, -1, 3, []⟩ (c4 := 0) (by decide) (Kd.C_nil _ _)) rfl).snoc (k73_mk V ⟨1, 0, -1, 4, []⟩ (c4 := 0) (by decide) (Kd.C_nil _ _)) rfl
theorem aw_check : checkB Bax = 0 := by decide +kernel
theorem aw_maps : Maps Bax := by
 intro n
 by_cases h : n.toNat = 0
 ·simp [qJ, Bax, h]
 by_cases h1 : n.toNat = 1
 ·simp [qJ, Bax, h1]
 ·have : qJ Bax.exits n = z73 := by
   unfold qJ Bax
   rw [List.getD_eq_getElem?_getD, List.getElem?_eq_none (by simp; omega)]
   rfl
  rw [this]
  exact Nat.zero_le _
theorem aw_small : SmallB Bax := by
 refine ⟨by decide, by decide, by decide, fun x hx => ?_⟩
 simp only [Bax, List.mem_cons, List.not_mem_nil, or_false] at hx
 rcases hx with rfl | rfl
 ·exact Nat.zero_le _
 ·exact Nat.zero_le _
theorem aw_ops : (guardB Bax).ops.length = 2 := by kernel_rfl
theorem aw_exits : (guardB Bax).exits = [⟨1, 0, -1, 3, []⟩] := by kernel_rfl
set_option maxHeartbeats 4000000 in
set_option maxRecDepth 100000 in
theorem awake31_c (w : World) : Calls Try.prog 35 #[] w fun e w' => e = .returned (.bool true) ∧ Below w.heap.size w w' := by
 have HDO := Lib.hid (fun v (hB : BlockAt v (w.heap.size + 1 + 1 + 1) Bax) => gddo_yes Bax (w.heap.size + 1 + 1 + 1) v hB aw_maps aw_small aw_check)
 go_enter Try.func35, Try.ntmps35
 go_wp2_with fail
 have HBA := Lib.hid (aw_block w)
 have HBB := Lib.hid (aw_below w)
 refine (HDO.out _ HBA.out).mono ?_
 rintro e w1 ⟨⟨gc, rfl, hN⟩, hb1⟩
 have HBB1 := Lib.hid (bthen HBB.out hb1)
 obtain ⟨A1, c1, u1, -⟩ := hN.ops
 rw [aw_ops] at u1
 obtain ⟨A2, c2, u2, k2⟩ := hN.exits
 rw [aw_exits] at u2 k2
 obtain ⟨ad, A4, c4, rfl, -, -, -, d3, -, -, -⟩ := at_T73 k2 0 (by decide) (by decide)
 have e3 : (qJ ([⟨1, 0, -1, 3, []⟩] : List S73) 0).f3 = 3 := rfl
 rw [e3] at d3
 have u2' : w1.cell? ⟨gc, 2, none⟩ = some (.slice (some ad) 1 c2) := u2
 have d3' : w1.cell? ⟨(ad.add 0).block, (ad.add 0).off + 3, none⟩ = some (.int .i64 3) := d3
 have d3'' : w1.cell? ⟨ad.block, ad.off + 3, none⟩ = some (.int .i64 3) := by (first | simpa [go_sem] using d3' | (unfold Addr.add at d3'; split at d3' <;> simpa using d3'))
 have HOT := Lib.hid (fun v => guard_Other.calls 1 7 8 v (other_f 7 0))
 clear hb1 hN k2 u2 d3 HDO HBA HBB e3
 go_wp2_with (first | (go_at_call 37; refine (HOT.out _).mono ?_; rintro e w' ⟨rfl, ⟨nd, rfl⟩⟩))
 go_ret
 refine ⟨rfl, ?_⟩
 repeat (first | (with_reducible exact HBB1.out) | (with_reducible refine qc ?_ _))
end Go.Proofs.Ythjgakoofmmloaa

namespace Go.Proofs.Ythjgakoofmmloaa
open Go.RowKit Go.Proofs.YthjgakoofmmloaaW.PrintWords Go.Proofs.YthjgakoofmmloaaW.PrintLast Go.Proofs.YthjgakoofmmloaaW.PrintMore Go.Proofs.Ythjgakoofmmloaa.PNumberDoes
set_option linter.unusedVariables false
set_option linter.unusedSimpArgs false

theorem opBk_of (l : List S62) : (l.map opOf).map opBk = l := by
 rw [List.map_map]
 exact List.map_id'' (fun x => rfl) l
theorem valBk_of (l : List S85) : (l.map valOf).map valBk = l := by
 rw [List.map_map]
 exact List.map_id'' (fun x => rfl) l
theorem exitBk_of (l : List S65) : (l.map exitOf).map exitBk = l := by
 rw [List.map_map]
 refine List.map_id'' (fun x => ?_) l
 show exitBk (exitOf x) = x
 cases x
 simp only [exitBk, exitOf, valBk_of]
def AggB (lp lo le : Nat) (pcs : List Int) (ops : List S62) (exits : List S65) (last : Int) (v : Value) (w : World) : Prop :=
 ∃ A0 A1 A2 c0 c1 c2, v = .agg #[.slice A0 lp c0, .slice A1 lo c1, .slice A2 le c2, .int .i64 last] ∧ Hid ((Kd.int .u32).C w A0 lp pcs ∧ k62.C w A1 lo ops ∧ k65.C w A2 le exits)
theorem AggB.keep {lp lo le : Nat} {pcs : List Int} {ops : List S62} {exits : List S65} {last : Int} (v : Value) (w1 w2 : World) (h : AggB lp lo le pcs ops exits last v w1) (hb : Below w1.heap.size w1 w2) : AggB lp lo le pcs ops exits last v w2 := by
 obtain ⟨A0, A1, A2, c0, c1, c2, hv, hk⟩ := h
 exact ⟨A0, A1, A2, c0, c1, c2, hv, Lib.hid ⟨Kd.qn hk.out.1 hb, Kd.qn hk.out.2.1 hb, Kd.qn hk.out.2.2 hb⟩⟩
theorem small_of (pcs : List Int) (ops : List S62) (exits : List S65) (last : Int) (hL : lightB pcs ops exits = true) : SmallB (blkOf pcs ops exits last) := by
 obtain ⟨a, b, c, d, e⟩ := light_maps pcs ops exits hL
 refine ⟨by show pcs.length ≤ _; omega, by show (ops.map opOf).length ≤ _; rw [List.length_map]; omega, by show (exits.map exitOf).length ≤ _; rw [List.length_map]; omega, fun x hx => ?_⟩
 obtain ⟨y, hy, rfl⟩ := List.mem_map.1 (show x ∈ exits.map exitOf from hx)
 show (y.f4.map valOf).length ≤ _
 rw [List.length_map]
 have := d y hy
 omega
theorem back_a (pcs : List Int) (ops : List S62) (exits : List S65) (last : Int) (hL : lightB pcs ops exits = true) (g : Nat) (w : World) (hB : BlockAt w g (blkOf pcs ops exits last)) :
  Calls Try.prog 21 #[.pointer (some ⟨g, 0, none⟩)] w fun e w' => (∃ v, e = .returned v ∧ AggB pcs.length ops.length exits.length pcs ops exits last v w') ∧ Below w.heap.size w w' := by
 have s := small_of pcs ops exits last hL
 refine (back_c _ g w hB s.m s.o s.e).mono ?_
 rintro e w' ⟨⟨A0, A1, A2, c0, c1, c2, rfl, h0, h1, h2, -, -⟩, hb⟩
 have e1 : (blkOf pcs ops exits last).ops.length = ops.length := List.length_map _
 have e2 : (blkOf pcs ops exits last).exits.length = exits.length := List.length_map _
 rw [show (blkOf pcs ops exits last).ops.map opBk = ops from opBk_of ops] at h1
 rw [show (blkOf pcs ops exits last).exits.map exitBk = exits from exitBk_of exits] at h2
 rw [e1] at h1
 rw [e2] at h2
 exact ⟨⟨_, rfl, A0, A1, A2, c0, c1, c2, by rw [e1, e2]; rfl, Lib.hid ⟨h0, h1, h2⟩⟩, hb⟩
end Go.Proofs.Ythjgakoofmmloaa

namespace Go.Proofs.Ythjgakoofmmloaa
open Go.RowKit Go.Proofs.YthjgakoofmmloaaW.PrintWords Go.Proofs.YthjgakoofmmloaaW.PrintLast Go.Proofs.YthjgakoofmmloaaW.PrintMore Go.Proofs.Ythjgakoofmmloaa.PNumberDoes
set_option linter.unusedVariables false
set_option linter.unusedSimpArgs false

section
variable (pcs : List Int) (ops : List S62) (exits : List S65) (last : Int)
theorem light31_l0 : ∀ (m i k : Nat), exits.length ≤ 200 → i + m = exits.length → m < k →
  mimesislaw31_light.l0 k (i : Int) pcs ops exits last = some ((exits.drop i).all (fun e => decide (e.f4.length ≤ 100))) := by
 intro m
 induction m with
 | zero =>
  intro i k hl hi hk
  obtain ⟨k, rfl⟩ : ∃ q, k = q + 1 := ⟨k - 1, by omega⟩
  rw [mimesislaw31_light.l0, if_neg (by omega), List.drop_eq_nil_of_le (by omega)]
  rfl
 | succ m ih =>
  intro i k hl hi hk
  obtain ⟨k, rfl⟩ : ∃ q, k = q + 1 := ⟨k - 1, by omega⟩
  have hlt : i < exits.length := by omega
  have hq : qj exits (i : Int) = exits[i] := by simp [qj, hlt]
  rw [mimesislaw31_light.l0, if_pos (by omega), if_pos (by omega), w64n i (by omega), ih (i + 1) k hl (by omega) (by omega), hq, List.drop_eq_getElem_cons hlt, List.all_cons]
  by_cases h : 100 < exits[i].f4.length
  ·rw [if_pos (by omega), decide_eq_false (by omega)]
   rfl
  ·rw [if_neg (by omega), decide_eq_true (by omega)]
   rfl
theorem light31_f : mimesislaw31_light.f 400 pcs ops exits last = some (lightB pcs ops exits) := by
 unfold mimesislaw31_light.f lightB
 by_cases h0 : 100 < pcs.length
 ·rw [if_pos (by omega), mimesislaw31_light.j0, if_pos rfl, decide_eq_false (show ¬ pcs.length ≤ 100 by omega)]
  rfl
 rw [if_neg (by omega), decide_eq_true (show pcs.length ≤ 100 by omega), Bool.true_and]
 by_cases h1 : 600 < ops.length
 ·rw [if_pos (by omega), mimesislaw31_light.j0, if_pos rfl, decide_eq_false (show ¬ ops.length ≤ 600 by omega)]
  rfl
 rw [if_neg (by omega), decide_eq_true (show ops.length ≤ 600 by omega), Bool.true_and]
 by_cases h2 : 200 < exits.length
 ·rw [mimesislaw31_light.j0, if_pos (by simp; omega), decide_eq_false (show ¬ exits.length ≤ 200 by omega)]
  rfl
 have := light31_l0 pcs ops exits last _ 0 399 (by omega) (by rw [Nat.zero_add]) (by omega)
 rw [show ((0 : Nat) : Int) = 0 from rfl, List.drop_zero] at this
 rw [mimesislaw31_light.j0, if_neg (by simp; omega), decide_eq_true (show exits.length ≤ 200 by omega), Bool.true_and, this]
end
theorem light31_c (A0 A1 A2 : Option Addr) (c0 c1 c2 : Nat) (last : Int) (pcs : List Int) (ops : List S62) (exits : List S65) (w : World) (h : ArgB w A0 A1 A2 c0 c1 c2 pcs ops exits) :
  Calls Try.prog 34 #[.agg #[.slice A0 pcs.length c0, .slice A1 ops.length c1, .slice A2 exits.length c2, .int .i64 last]] w fun e w' => e = .returned (.bool (lightB pcs ops exits)) ∧ Below w.heap.size w w' :=
 mimesislaw31_light.calls 400 A0 c0 pcs A1 c1 ops A2 c2 exits last _ w h.C0 h.l0 h.C1 h.l1 h.C2 h.l2 (light31_f pcs ops exits last)
theorem exOf_bk (x : S73) : exitOf (exitBk x) = x := by
 obtain ⟨a, b, c, d, e⟩ := x
 show (⟨a, b, c, d, (e.map valBk).map valOf⟩ : S73) = _
 rw [List.map_map]
 congr 1
 exact List.map_id'' (fun v => rfl) e
theorem opsOf_bk (l : List S67) : (l.map opBk).map opOf = l := by
 rw [List.map_map]
 exact List.map_id'' (fun x => rfl) l
theorem blk_back (B : BlkV) : blkOf B.pcs (B.ops.map opBk) (B.exits.map exitBk) B.last = B := by
 obtain ⟨p, o, e, la⟩ := B
 show (⟨p, (o.map opBk).map opOf, (e.map exitBk).map exitOf, la⟩ : BlkV) = _
 rw [opsOf_bk, List.map_map]
 congr 1
 exact List.map_id'' (fun x => exOf_bk x) e
theorem guard_ops (B : BlkV) : (guardB B).ops.length ≤ B.ops.length := by
 show (List.map _ _).length ≤ _
 rw [List.length_map]
 exact runG_len _ _ _ _
theorem light_guard (pcs : List Int) (ops : List S62) (exits : List S65) (last : Int) (hL : lightB pcs ops exits = true) : lightB pcs ((guardB (blkOf pcs ops exits last)).ops.map opBk) ((guardB (blkOf pcs ops exits last)).exits.map exitBk) = true := by
 obtain ⟨a, b, c, d, -⟩ := light_maps pcs ops exits hL
 have h1 := guard_ops (blkOf pcs ops exits last)
 have h2 := guard_exits (blkOf pcs ops exits last)
 rw [show (blkOf pcs ops exits last).ops.length = ops.length from List.length_map _] at h1
 rw [show (blkOf pcs ops exits last).exits.length = exits.length from List.length_map _] at h2
 unfold lightB
 simp only [Bool.and_eq_true, decide_eq_true_eq, List.all_eq_true, List.length_map]
 refine ⟨a, by omega, by omega, fun x hx => ?_⟩
 obtain ⟨y, hy, rfl⟩ := List.mem_map.1 hx
 show (y.f4.map _).length ≤ 100
 rw [List.length_map]
 obtain ⟨z, hz, rfl⟩ := List.mem_map.1 (show y ∈ (keptX _ _ _).map (exN _) from hy)
 show (z.f4.map _).length ≤ 100
 rw [List.length_map]
 obtain ⟨p, hp, rfl⟩ := List.getElem_of_mem hz
 obtain ⟨n, hn, -, -, he⟩ := keptX_from _ _ p _ _ (Nat.le_refl _) (List.getElem?_eq_getElem hp)
 have hm := List.mem_of_getElem? he
 obtain ⟨u, hu, hq⟩ := List.mem_map.1 (show _ ∈ exits.map exitOf from hm)
 rw [← hq]
 show (u.f4.map valOf).length ≤ 100
 rw [List.length_map]
 exact d u hu
theorem rsame_g (A0 A1 A2 D0 D1 D2 : Option Addr) (c0 c1 c2 d0 d1 d2 : Nat) (last : Int) (pcs : List Int) (ops : List S62) (exits : List S65) (lp lo le : Nat) (hp : pcs.length = lp) (ho : ops.length = lo) (he : exits.length = le) (hL : lightB pcs ops exits = true) (w : World)
  (hk : Hid ((Kd.int .u32).C w D0 lp pcs ∧ k62.C w D1 lo ops ∧ k65.C w D2 le exits)) (h : Hid ((Kd.int .u32).C w A0 lp pcs ∧ k62.C w A1 lo ops ∧ k65.C w A2 le exits)) :
  Calls Try.prog 27 #[.agg #[.slice D0 lp d0, .slice D1 lo d1, .slice D2 le d2, .int .i64 last], .agg #[.slice A0 lp c0, .slice A1 lo c1, .slice A2 le c2, .int .i64 last]] w fun e w' => e = .returned (.bool true) ∧ Below w.heap.size w w' := by
 subst hp ho he
 obtain ⟨a, b, c, d, -⟩ := light_maps pcs ops exits hL
 have dm : ∀ x ∈ exits, x.f4.length ≤ 1000000 := fun x hx => by have := d x hx; omega
 refine (rsame_c D0 D1 D2 A0 A1 A2 d0 d1 d2 c0 c1 c2 last last pcs pcs ops ops exits exits (by omega) (by omega) (by omega) dm dm w hk.out.1 hk.out.2.1 hk.out.2.2 h.out.1 h.out.2.1 h.out.2.2).mono ?_
 rintro e w' ⟨hr, hb⟩
 refine ⟨?_, hb⟩
 rw [SameR.dec hr, decG_yes ⟨rfl, rfl, rfl, rfl⟩]
end Go.Proofs.Ythjgakoofmmloaa

namespace Go.Proofs.Ythjgakoofmmloaa
open Go.RowKit Go.Proofs.YthjgakoofmmloaaW.PrintWords Go.Proofs.YthjgakoofmmloaaW.PrintLast Go.Proofs.YthjgakoofmmloaaW.PrintMore Go.Proofs.Ythjgakoofmmloaa.PNumberDoes
set_option linter.unusedVariables false
set_option linter.unusedSimpArgs false

set_option maxHeartbeats 8000000 in
set_option maxRecDepth 100000 in
theorem guardagain_c (A0 A1 A2 : Option Addr) (c0 c1 c2 : Nat) (last : Int) (pcs : List Int) (ops : List S62) (exits : List S65) (w : World) (h : ArgB w A0 A1 A2 c0 c1 c2 pcs ops exits) :
  Calls Try.prog 11 #[.agg #[.slice A0 pcs.length c0, .slice A1 ops.length c1, .slice A2 exits.length c2, .int .i64 last]] w fun e w' => e = .returned (.bool true) ∧ Below w.heap.size w w' := by
 have HLI := Lib.hid (fun v (hb : Below w.heap.size w v) => light31_c A0 A1 A2 c0 c1 c2 last pcs ops exits v (h.below hb))
 have HAW := Lib.hid (fun v => awake31_c v)
 rcases Bool.eq_false_or_eq_true (lightB pcs ops exits) with hL | hL
 case inr =>
  rw [hL] at HLI
  clear h hL
  go_enter Try.func11, Try.ntmps11
  go_wp2_with fail
  refine (HLI.out _ (bal (Below.refl _ _) _)).mono ?_
  rintro e w1 ⟨rfl, hb1⟩
  have HB1 := Lib.hid (bthen (bal (Below.refl w.heap.size w) _) hb1)
  clear hb1 HLI
  go_wp2_with fail
  refine (HAW.out _).mono ?_
  rintro e w2 ⟨rfl, hb2⟩
  have HB2 := Lib.hid (bthen HB1.out hb2)
  clear hb2
  go_wp2
  go_ret
  exact ⟨rfl, HB2.out⟩
 have HRC := Lib.hid (fun v (hb : Below w.heap.size w v) => rcheck_c A0 A1 A2 c0 c1 c2 last pcs ops exits hL v (h.below hb))
 rcases Classical.em (checkB (blkOf pcs ops exits last) = 0) with hK | hK
 case inr =>
  have t1 : (checkB (blkOf pcs ops exits last) != 0) = true := bne_iff_ne.2 hK
  rw [hL] at HLI
  clear h hL hK
  generalize pcs.length = lp at *
  generalize ops.length = lo at *
  generalize exits.length = le at *
  generalize checkB (blkOf pcs ops exits last) = c at *
  go_enter Try.func11, Try.ntmps11
  go_wp2_with fail
  refine (HLI.out _ (bal (Below.refl _ _) _)).mono ?_
  rintro e w1 ⟨rfl, hb1⟩
  have d0 := cellk hb1 (a := ⟨w.heap.size, 0, none⟩) (v := .slice A0 lp c0) (by simp [go_sem])
  have d1 := cellk hb1 (a := ⟨w.heap.size, 1, none⟩) (v := .slice A1 lo c1) (by simp [go_sem])
  have d2 := cellk hb1 (a := ⟨w.heap.size, 2, none⟩) (v := .slice A2 le c2) (by simp [go_sem])
  have d3 := cellk hb1 (a := ⟨w.heap.size, 3, none⟩) (v := .int .i64 last) (by simp [go_sem])
  have HB1 := Lib.hid (bthen (bal (Below.refl w.heap.size w) _) hb1)
  clear hb1 HLI
  go_wp2_with fail
  refine (HRC.out _ HB1.out).mono ?_
  rintro e w4 ⟨rfl, hb4⟩
  have HB4 := Lib.hid (bthen HB1.out hb4)
  clear hb4 HB1 HRC d0 d1 d2 d3
  go_wp2_with fail
  refine (HAW.out _).mono ?_
  rintro e w5 ⟨rfl, hb5⟩
  have HB5 := Lib.hid (bthen HB4.out hb5)
  clear hb5
  go_wp2
  go_ret
  exact ⟨rfl, HB5.out⟩
 have HOW := Lib.hid (fun v (hb : Below w.heap.size w v) => own_a A0 A1 A2 c0 c1 c2 last pcs ops exits hL v (h.below hb))
 obtain ⟨m1, m2, m3, m4⟩ := blk_maps pcs ops exits last hL
 have sB := small_of pcs ops exits last hL
 have HDY := Lib.hid (fun g v (hB : BlockAt v g (blkOf pcs ops exits last)) => gddo_yes _ g v hB m1 sB hK)
 have HMY := Lib.hid (fun g v (hB : BlockAt v g (blkOf pcs ops exits last)) => gdmany_c _ g v hB m1 m2 m3 m4)
 rw [hK, if_pos rfl] at HMY
 have hLn := light_guard pcs ops exits last hL
 have hK2 := guard_check hK
 have hag := guard_again hK
 have hmny := guard_many (blkOf pcs ops exits last)
 have hle := guard_exits (blkOf pcs ops exits last)
 have hnb := blk_back (guardB (blkOf pcs ops exits last))
 have hpc : (guardB (blkOf pcs ops exits last)).pcs = pcs := rfl
 rw [hpc] at hnb
 rw [show (blkOf pcs ops exits last).exits.length = exits.length from List.length_map _] at hle
 obtain ⟨Bg, hBg⟩ : ∃ Bg, Bg = guardB (blkOf pcs ops exits last) := ⟨_, rfl⟩
 rw [← hBg] at HDY hLn hK2 hag hmny hle hnb
 obtain ⟨L, hLL⟩ : ∃ L, L = Bg.ops.map opBk := ⟨_, rfl⟩
 obtain ⟨E, hEE⟩ : ∃ E, E = Bg.exits.map exitBk := ⟨_, rfl⟩
 rw [← hLL, ← hEE] at hLn hnb
 have hEl : E.length = Bg.exits.length := by rw [hEE, List.length_map]
 rw [← hEl] at hle
 have hag2 : guardB (blkOf pcs L E Bg.last) = blkOf pcs L E Bg.last := by rw [hnb]; exact hag
 have hK3 : checkB (blkOf pcs L E Bg.last) = 0 := by rw [hnb]; exact hK2
 obtain ⟨n1, n2, n3, n4⟩ := blk_maps pcs L E Bg.last hLn
 have sN := small_of pcs L E Bg.last hLn
 have HDZ := Lib.hid (fun g v (hB : BlockAt v g (blkOf pcs L E Bg.last)) => gddo_yes _ g v hB n1 sN hK3)
 rw [hag2] at HDZ
 have HMZ := Lib.hid (fun g v (hB : BlockAt v g (blkOf pcs L E Bg.last)) => gdmany_c _ g v hB n1 n2 n3 n4)
 rw [hK3, if_pos rfl] at HMZ
 have HBN := Lib.hid (fun g v (hB : BlockAt v g (blkOf pcs L E Bg.last)) => back_a pcs L E Bg.last hLn g v hB)
 have HSN := Lib.hid (fun A0 A1 A2 D0 D1 D2 c0 c1 c2 d0 d1 d2 v => rsame_g A0 A1 A2 D0 D1 D2 c0 c1 c2 d0 d1 d2 Bg.last pcs L E pcs.length L.length E.length rfl rfl rfl hLn v)
 rw [← hnb] at HDY hmny
 have tm : decide (manyN (blkOf pcs L E Bg.last).ops ≤ manyN (blkOf pcs ops exits last).ops) = true := decide_eq_true hmny
 have tl : decide (E.length ≤ exits.length) = true := decide_eq_true hle
 rw [hL] at HLI
 rw [hK] at HRC
 clear h hL hK m1 m2 m3 m4 sB hLn hK2 hag hmny hle hnb hpc hEl hag2 hK3 n1 n2 n3 n4 sN hLL hEE
 generalize Bg.last = la at *
 clear hBg
 generalize manyN (blkOf pcs L E la).ops = mz at *
 generalize manyN (blkOf pcs ops exits last).ops = my at *
 generalize pcs.length = lp at *
 generalize ops.length = lo at *
 generalize exits.length = le at *
 generalize L.length = ln at *
 generalize E.length = lx at *
 generalize blkOf pcs ops exits last = B at *
 generalize blkOf pcs L E la = Bn at *
 go_enter Try.func11, Try.ntmps11
 go_wp2_with fail
 refine (HLI.out _ (bal (Below.refl _ _) _)).mono ?_
 rintro e w1 ⟨rfl, hb1⟩
 have d0 := cellk hb1 (a := ⟨w.heap.size, 0, none⟩) (v := .slice A0 lp c0) (by simp [go_sem])
 have d1 := cellk hb1 (a := ⟨w.heap.size, 1, none⟩) (v := .slice A1 lo c1) (by simp [go_sem])
 have d2 := cellk hb1 (a := ⟨w.heap.size, 2, none⟩) (v := .slice A2 le c2) (by simp [go_sem])
 have d3 := cellk hb1 (a := ⟨w.heap.size, 3, none⟩) (v := .int .i64 last) (by simp [go_sem])
 have HB1 := Lib.hid (bthen (bal (Below.refl w.heap.size w) _) hb1)
 clear hb1 HLI
 go_wp2_with fail
 refine (HRC.out _ HB1.out).mono ?_
 rintro e w2 ⟨rfl, hb2⟩
 have HB2 := Lib.hid (bthen HB1.out hb2)
 replace d0 := cellk hb2 d0
 replace d1 := cellk hb2 d1
 replace d2 := cellk hb2 d2
 replace d3 := cellk hb2 d3
 clear hb2 HB1 HRC
 go_wp2_with fail
 refine (HOW.out _ HB2.out).mono ?_
 rintro e w3 ⟨rfl, hB3, hb3⟩
 generalize w2.heap.size + 1 = g at *
 have HX3 := Lib.hid hB3
 have HB3 := Lib.hid (bthen HB2.out hb3)
 replace d2 := cellk hb3 d2
 clear hb3 hB3 HB2 HOW d0 d1 d3
 go_wp2_with fail
 refine (HDY.out _ _ HX3.out).mono ?_
 rintro e w4 ⟨⟨gc, rfl, hBn⟩, hb4⟩
 have HB4 := Lib.hid (bthen HB3.out hb4)
 have HN4 := Lib.hid hBn
 have HX4 := Lib.hid (HX3.out.below hb4)
 replace d2 := cellk hb4 d2
 clear hb4 hBn HB3 HX3 HDY
 go_wp2_with fail
 refine (HDZ.out _ _ HN4.out).mono ?_
 rintro e w5 ⟨⟨gd, rfl, hBd⟩, hb5⟩
 have HB5 := Lib.hid (bthen HB4.out hb5)
 have HN5 := Lib.hid (HN4.out.below hb5)
 have HX5 := Lib.hid (HX4.out.below hb5)
 have HD5 := Lib.hid hBd
 replace d2 := cellk hb5 d2
 clear hb5 hBd HB4 HN4 HX4 HDZ
 go_wp2_with fail
 refine (HBN.out _ _ HN5.out).mono ?_
 rintro e w6 ⟨⟨v6, rfl, Z0, Z1, Z2, z0, z1, z2, rfl, HK6⟩, hb6⟩
 have HB6 := Lib.hid (bal (bthen HB5.out hb6) (.cells #[.slice Z0 lp z0, .slice Z1 ln z1, .slice Z2 lx z2, .int .i64 la] 26))
 have hbz := bal (Below.refl w6.heap.size w6) (.cells #[.slice Z0 lp z0, .slice Z1 ln z1, .slice Z2 lx z2, .int .i64 la] 26)
 have HD6 := Lib.hid ((HD5.out.below hb6).below hbz)
 have HN6 := Lib.hid ((HN5.out.below hb6).below hbz)
 have HX6 := Lib.hid ((HX5.out.below hb6).below hbz)
 have HK7 := Lib.hid (show (Kd.int .u32).C _ Z0 lp pcs ∧ k62.C _ Z1 ln L ∧ k65.C _ Z2 lx E from ⟨Kd.qn HK6.out.1 hbz, Kd.qn HK6.out.2.1 hbz, Kd.qn HK6.out.2.2 hbz⟩)
 replace d2 := cellk hbz (cellk hb6 d2)
 have bz := qD w6 (.cells #[.slice Z0 lp z0, .slice Z1 ln z1, .slice Z2 lx z2, .int .i64 la] 26)
 clear hb6 hbz HB5 HN5 HX5 HD5 HK6
 go_upto_region 7 with fail
 generalize hV : w6.alloc (.cells #[.slice Z0 lp z0, .slice Z1 ln z1, .slice Z2 lx z2, .int .i64 la] 26) = V at *
 clear hV
 have y0 : V.cell? ⟨w6.heap.size, 0, none⟩ = some (.slice Z0 lp z0) := by rw [qb bz]; rfl
 have y1 : V.cell? ⟨w6.heap.size, 1, none⟩ = some (.slice Z1 ln z1) := by rw [qb bz]; rfl
 have y2 : V.cell? ⟨w6.heap.size, 2, none⟩ = some (.slice Z2 lx z2) := by rw [qb bz]; rfl
 have y3 : V.cell? ⟨w6.heap.size, 3, none⟩ = some (.int .i64 la) := by rw [qb bz]; rfl
 clear bz
 go_wp2
 refine wp_region_fc (by kernel_rfl) (by kernel_rfl) [.is (.int .i64 0), .is (.bool true), .is (.bool true), .is (.int .i64 0), .is (.bool true), .is (.bool true), .is (.bool true), .is (.pointer (some ⟨gc, 0, none⟩)), .is (.int .i64 mz), .is (.pointer (some ⟨g, 0, none⟩)), .is (.int .i64 my), .is (.bool true), .is (.bool true), .is (.bool true),
  .is (.pointer (some ⟨w6.heap.size, 2, none⟩)), .is (.slice Z2 lx z2), .is (.int .i64 lx), .is (.pointer (some ⟨w.heap.size, 2, none⟩)), .is (.slice A2 le c2), .is (.int .i64 le), .is (.bool true), .is (.bool true), .is (.bool true),
  .is (.pointer (some ⟨gd, 0, none⟩)), .any (AggB lp ln lx pcs L E la) AggB.keep, .is (.agg #[.slice Z0 lp z0, .slice Z1 ln z1, .slice Z2 lx z2, .int .i64 la]), .is (.bool true), .is (.bool true), .is (.bool true), .is (.bool true), .is (.bool true), .is (.bool true)] ?_ ?_
 ·intro vs w' hb'
  have u0 := cellk hb' y0
  have u1 := cellk hb' y1
  have u2 := cellk hb' y2
  have u3 := cellk hb' y3
  have u4 := cellk hb' d2
  have HBW := Lib.hid (bthen HB6.out hb')
  have HD := Lib.hid (HD6.out.below hb')
  have HN := Lib.hid (HN6.out.below hb')
  have HX := Lib.hid (HX6.out.below hb')
  have HK2 := Lib.hid (show (Kd.int .u32).C w' Z0 lp pcs ∧ k62.C w' Z1 ln L ∧ k65.C w' Z2 lx E from ⟨Kd.qn HK7.out.1 hb', Kd.qn HK7.out.2.1 hb', Kd.qn HK7.out.2.2 hb'⟩)
  clear y0 y1 y2 y3 d2 HK7 HD6 HN6 HX6 HB6 hb'
  simp only [factSteps, putAll, Act.put, List.setIfInBounds_toArray, List.set_cons_zero, List.set_cons_succ, Nat.zero_add, Nat.reduceAdd]
  refine ⟨?_, ?_, ?_, ?_, ?_, ?_, ?_, ?_, ?_, ?_, ?_, ?_, ?_, ?_, ?_, ?_, ?_, ?_, ?_, ?_, ?_, ?_, ?_, ?_, ?_, ?_, ?_, ?_, ?_, ?_, ?_, ?_, trivial⟩
  all_goals
   intro he
   simp only [factEdges, Region.binds, List.getD_cons_zero, List.getD_cons_succ, Fc.holds, true_implies, and_true] at he
   try simp only [and_self] at he
   first | (obtain ⟨⟨D0, D1, D2, e0, e1, e2, hv, hk⟩, h25, -, hg22⟩ : AggB lp ln lx pcs L E la (vs 24) w' ∧ vs 25 = _ ∧ _ ∧ vs 22 = _ := he; simp only [hv, h25, hg22]) | (simp only [he]) | skip
   go_wp2_with (first | (go_at_call 21; with_reducible refine Calls.mono (HBN.out _ _ HD.out) ?_; rintro e w5 ⟨⟨v5, rfl, hv5⟩, hb5⟩) | (go_at_call 40; (first | (with_reducible refine Calls.mono (HMZ.out _ _ HN.out) ?_) | (with_reducible refine Calls.mono (HMY.out _ _ HX.out) ?_)); rintro e w5 ⟨rfl, hb5⟩) | (go_at_call 27; with_reducible refine Calls.mono (HSN.out _ _ _ _ _ _ _ _ _ _ _ _ _ hk HK2) ?_; rintro e w5 ⟨rfl, hb5⟩) | (go_at_call 35; with_reducible refine Calls.mono (HAW.out _) ?_; rintro e w5 ⟨rfl, hb5⟩))
   first
    | exact ⟨rfl, Below.refl _ _⟩
    | exact ⟨(show AggB lp ln lx pcs L E la _ _ from hv5), hb5⟩
    | exact (show AggB lp ln lx pcs L E la _ _ from hv5)
    | exact ⟨rfl, hb5⟩
    | exact hb5
    | exact Below.refl _ _
    | exact rfl
    | (trace_state; skip)
 ·intro vs w5 hb5 hall
  simp only [factSteps, List.getD_cons_zero, List.getD_cons_succ, Fc.holds, and_true] at hall
  obtain ⟨-, -, -, -, -, -, -, -, -, -, -, -, -, -, -, -, -, -, -, -, -, -, -, -, -, -, -, -, -, -, -, e31⟩ := hall
  simp only [putAll, Act.put, List.setIfInBounds_toArray, List.set_cons_zero, List.set_cons_succ, Nat.zero_add, Nat.reduceAdd, e31]
  have HB5 := Lib.hid (bthen HB6.out hb5)
  clear hb5
  go_wp2
  go_ret
  exact ⟨rfl, HB5.out⟩
end Go.Proofs.Ythjgakoofmmloaa

namespace Go.Proofs.Ythjgakoofmmloaa
open Go.RowKit Go.Proofs.YthjgakoofmmloaaW.PrintWords Go.Proofs.YthjgakoofmmloaaW.PrintLast Go.Proofs.YthjgakoofmmloaaW.PrintMore Go.Proofs.Ythjgakoofmmloaa.PNumberDoes
set_option linter.unusedVariables false
set_option linter.unusedSimpArgs false

theorem rtaken_o (n a b : Int) (hn : 5 ≤ n ∧ n ≤ 10) (a0 : 0 ≤ a ∧ a ≤ 4294967295) (b0 : 0 ≤ b ∧ b ≤ 4294967295) (w : World) : Calls Try.prog 39 #[.int .i64 n, .int .u32 a, .int .u32 b] w fun e w' => e = .returned (.bool (takenI n a b)) ∧ Drawn0 w w' := mimesisref07_Taken.calls _ _ _ _ w (rtaken_f n a b hn a0.1 a0.2 b0.1 b0.2)
theorem guardothers_c (op a b : Int) (ha : 0 ≤ a ∧ a ≤ 4294967295) (hb : 0 ≤ b ∧ b ≤ 4294967295) (w : World) :
  Calls Try.prog 9 #[.int .i64 op, .int .u32 a, .int .u32 b] w fun e w' => e = .returned (.bool true) ∧ Below w.heap.size w w' := by
 have HAW := Lib.hid (fun v => awake31_c v)
 rcases (by omega : op < 5 ∨ 10 < op ∨ (5 ≤ op ∧ op ≤ 10)) with h | h | h
 ·have e : otherI op = 0 := by unfold otherI; rw [if_neg (by omega), if_neg (by omega)]
  have HO := Lib.hid (fun v => guard_Other.calls 1 op 0 v (by rw [other_f, e]))
  clear e
  go_enter Try.func9, Try.ntmps9
  go_wp2_with (first | (go_at_call 37; refine (HO.out _).mono ?_; rintro e w' ⟨rfl, ⟨nd, rfl⟩⟩) | (go_at_call 35; refine (HAW.out _).mono ?_; rintro e w1 ⟨rfl, hb1⟩))
  go_ret
  exact ⟨rfl, bthen (qc (Below.refl _ _) _) hb1⟩
 ·have e : otherI op = 0 := by unfold otherI; rw [if_neg (by omega), if_neg (by omega)]
  have HO := Lib.hid (fun v => guard_Other.calls 1 op 0 v (by rw [other_f, e]))
  clear e
  go_enter Try.func9, Try.ntmps9
  go_wp2_with (first | (go_at_call 37; refine (HO.out _).mono ?_; rintro e w' ⟨rfl, ⟨nd, rfl⟩⟩) | (go_at_call 35; refine (HAW.out _).mono ?_; rintro e w1 ⟨rfl, hb1⟩))
  go_ret
  exact ⟨rfl, bthen (qc (Below.refl _ _) _) hb1⟩
 ·obtain ⟨n, hn, h2, hne⟩ : ∃ n, otherI op = n ∧ (otherI n = op ∧ 5 ≤ n ∧ n ≤ 10) ∧ (takenI op a b != takenI n a b) = true := by
   refine ⟨_, rfl, ?_, ?_⟩
   ·rcases (by omega : op = 5 ∨ op = 6 ∨ op = 7 ∨ op = 8 ∨ op = 9 ∨ op = 10) with rfl | rfl | rfl | rfl | rfl | rfl <;> decide
   ·rcases (by omega : op = 5 ∨ op = 6 ∨ op = 7 ∨ op = 8 ∨ op = 9 ∨ op = 10) with rfl | rfl | rfl | rfl | rfl | rfl
    ·show (takenI 5 a b != takenI 6 a b) = true
     unfold takenI
     rw [if_pos rfl, if_neg (by decide), if_pos rfl]
     cases h : (a == b) <;> simp [bne, h]
    ·show (takenI 6 a b != takenI 5 a b) = true
     unfold takenI
     rw [if_neg (by decide), if_pos rfl, if_pos rfl]
     cases h : (a == b) <;> simp [bne, h]
    ·show (takenI 7 a b != takenI 8 a b) = true
     unfold takenI
     rw [if_neg (by decide), if_neg (by decide), if_pos rfl, if_neg (by decide), if_neg (by decide), if_neg (by decide), if_pos rfl]
     by_cases h : wrap32 a < wrap32 b
     ·rw [decide_eq_true h, decide_eq_false (by omega)]; rfl
     ·rw [decide_eq_false h, decide_eq_true (by omega)]; rfl
    ·show (takenI 8 a b != takenI 7 a b) = true
     unfold takenI
     rw [if_neg (by decide), if_neg (by decide), if_neg (by decide), if_pos rfl, if_neg (by decide), if_neg (by decide), if_pos rfl]
     by_cases h : wrap32 a < wrap32 b
     ·rw [decide_eq_true h, decide_eq_false (by omega)]; rfl
     ·rw [decide_eq_false h, decide_eq_true (by omega)]; rfl
    ·show (takenI 9 a b != takenI 10 a b) = true
     unfold takenI
     rw [if_neg (by decide), if_neg (by decide), if_neg (by decide), if_neg (by decide), if_pos rfl, if_neg (by decide), if_neg (by decide), if_neg (by decide), if_neg (by decide), if_neg (by decide), if_pos rfl]
     by_cases h : a < b
     ·rw [decide_eq_true h, decide_eq_false (by omega)]; rfl
     ·rw [decide_eq_false h, decide_eq_true (by omega)]; rfl
    ·show (takenI 10 a b != takenI 9 a b) = true
     unfold takenI
     rw [if_neg (by decide), if_neg (by decide), if_neg (by decide), if_neg (by decide), if_neg (by decide), if_pos rfl, if_neg (by decide), if_neg (by decide), if_neg (by decide), if_neg (by decide), if_pos rfl]
     by_cases h : a < b
     ·rw [decide_eq_true h, decide_eq_false (by omega)]; rfl
     ·rw [decide_eq_false h, decide_eq_true (by omega)]; rfl
  obtain ⟨h2, h5, h10⟩ := h2
  have HO := Lib.hid (fun v => guard_Other.calls 1 op n v (by rw [other_f, hn]))
  have HO2 := Lib.hid (fun v => guard_Other.calls 1 n op v (by rw [other_f, h2]))
  have HR := Lib.hid (fun v => mimesisref31_Other.calls op n v (by rw [rother_f, hn]))
  have HT1 := Lib.hid (fun v => rtaken_o op a b h ha hb v)
  have HT2 := Lib.hid (fun v => rtaken_o n a b ⟨h5, h10⟩ ha hb v)
  generalize takenI op a b = T1 at *
  generalize takenI n a b = T2 at *
  have t1 : decide (op < 5) = false := decide_eq_false (by omega)
  have t2 : decide (10 < op) = false := decide_eq_false (by omega)
  clear hn h2 h5 h10 h ha hb
  cases T1 <;> cases T2
  case false.false => cases hne
  case true.true => cases hne
  all_goals
   clear hne
   go_enter Try.func9, Try.ntmps9
   go_wp2_with (first | (go_at_call 37; (first | (with_reducible refine Calls.mono (HO.out _) ?_) | (with_reducible refine Calls.mono (HO2.out _) ?_)); rintro e w' ⟨rfl, ⟨nd, rfl⟩⟩) | (go_at_call 38; refine (HR.out _).mono ?_; rintro e w3 ⟨rfl, hb3⟩) | (go_at_call 39; (first | (with_reducible refine Calls.mono (HT1.out _) ?_) | (with_reducible refine Calls.mono (HT2.out _) ?_)); rintro e w' ⟨rfl, ⟨nd, rfl⟩⟩) | (go_at_call 35; refine (HAW.out _).mono ?_; rintro e w1 ⟨rfl, hb1⟩))
   go_ret
   exact ⟨rfl, bthen (bthen (qc (Below.refl _ _) _) hb3) (bthen (qc (Below.refl _ _) _) hb1)⟩
end Go.Proofs.Ythjgakoofmmloaa
