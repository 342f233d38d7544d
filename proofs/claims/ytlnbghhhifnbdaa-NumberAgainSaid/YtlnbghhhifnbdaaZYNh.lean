/- Contract of the example of the laws of layer 29: it returns true. Conditions: none. -/
import Derived.Test.YtlnbghhhifnbdaaZYNe
namespace Go.Proofs.Ytlnbghhhifnbdaa
open Go.RowKit Go.Proofs.YtlnbghhhifnbdaaW.PrintWords Go.Proofs.YtlnbghhhifnbdaaW.PrintLast Go.Proofs.YtlnbghhhifnbdaaW.PrintMore Go.Proofs.Ytlnbghhhifnbdaa.PNumberDoes
set_option linter.unusedVariables false
set_option linter.unusedSimpArgs false

theorem C_of_reps {α : Type} {d : Kd α} {w : World} {g t : Nat} {cs : List Value} {xs : List α} (hb : w.heap[g]? = some (.cells cs.toArray t (0, 0))) (hr : Reps (d.K w) d.sz xs cs) (hl : xs.length ≤ 9223372036854775807) : d.C w (some ⟨g, 0, none⟩) xs.length xs := by
 refine ⟨rfl, hl, fun _ => ⟨_, rfl, fun j p hj => ⟨(cs.drop (j * d.sz)).take d.sz, d.K_len (hr.2 j p hj), hr.2 j p hj, fun i u hu => ?_⟩⟩⟩
 have h2 : cs[j * d.sz + i]? = some u := by
  rw [List.getElem?_take] at hu
  split at hu
  ·rwa [List.getElem?_drop] at hu
  ·cases hu
 rw [add_plain, qb hb, List.getElem?_toArray]
 exact h2
def Bax : BlkV := ⟨[0], [⟨1, 0, 0, 1, 0, 0⟩, ⟨1, 0, 0, 1, 0, 0⟩, ⟨3, 0, 1, 28, 0, 0⟩], [⟨1, 0, -1, 4, []⟩], 0⟩
def awA (w : World) : World := w.alloc (.cells #[.int .u32 0] 27)
def awB (w : World) : World := (awA w).alloc (.cells #[.int .i64 1, .int .i64 0, .int .i64 0, .int .u32 1, .int .i64 0, .int .i64 0, .int .i64 1, .int .i64 0, .int .i64 0, .int .u32 1, .int .i64 0, .int .i64 0, .int .i64 3, .int .i64 0, .int .i64 1, .int .u32 28, .int .i64 0, .int .i64 0] 66)
def awD (w : World) : World := (awB w).alloc (.cells #[.int .i64 1, .int .u32 0, .int .i64 (-1), .int .i64 4, .slice none 0 0] 72)
def awE (w : World) : World := (awD w).alloc (.cells #[.slice (some ⟨w.heap.size, 0, none⟩) 1 1, .slice (some ⟨w.heap.size + 1, 0, none⟩) 3 3, .slice (some ⟨w.heap.size + 1 + 1, 0, none⟩) 1 1, .int .i64 0] 75)
theorem alloc_size (w : World) (o : Obj) : (w.alloc o).heap.size = w.heap.size + 1 := by simp
theorem aw_sizes (w : World) : (awA w).heap.size = w.heap.size + 1 ∧ (awB w).heap.size = w.heap.size + 1 + 1 ∧ (awD w).heap.size = w.heap.size + 1 + 1 + 1 := by
 refine ⟨?_, ?_, ?_⟩
 ·rw [awA, alloc_size]
 ·rw [awB, alloc_size, awA, alloc_size]
 ·rw [awD, alloc_size, awB, alloc_size, awA, alloc_size]
theorem aw_below (w : World) : Below w.heap.size w (awE w) := bal (bal (bal (bal (Below.refl _ _) _) _) _) _
theorem aw_block (w : World) : BlockAt (awE w) (w.heap.size + 1 + 1 + 1) Bax := by
 obtain ⟨z1, z2, z4⟩ := aw_sizes w
 have b0 : (awE w).heap[w.heap.size]? = some (.cells [.int .u32 0].toArray 27 (0, 0)) := qh (qh (qh (blk_new _ _) _) _) _
 have b1 : (awE w).heap[w.heap.size + 1]? = some (.cells [.int .i64 1, .int .i64 0, .int .i64 0, .int .u32 1, .int .i64 0, .int .i64 0, .int .i64 1, .int .i64 0, .int .i64 0, .int .u32 1, .int .i64 0, .int .i64 0, .int .i64 3, .int .i64 0, .int .i64 1, .int .u32 28, .int .i64 0, .int .i64 0].toArray 66 (0, 0)) := by
  rw [← z1]
  exact qh (qh (blk_new _ _) _) _
 have b3 : (awE w).heap[w.heap.size + 1 + 1]? = some (.cells [.int .i64 1, .int .u32 0, .int .i64 (-1), .int .i64 4, .slice none 0 0].toArray 72 (0, 0)) := by
  rw [← z2]
  exact qh (blk_new _ _) _
 have b4 : (awE w).heap[w.heap.size + 1 + 1 + 1]? = some (.cells [.slice (some ⟨w.heap.size, 0, none⟩) 1 1, .slice (some ⟨w.heap.size + 1, 0, none⟩) 3 3, .slice (some ⟨w.heap.size + 1 + 1, 0, none⟩) 1 1, .int .i64 0].toArray 75 (0, 0)) := by
  rw [← z4]
  exact blk_new _ _
 generalize awE w = V at *
 refine ⟨⟨_, 1, by rw [qb b4]; rfl, C_of_reps (xs := [0]) b0 ?_ (by decide)⟩, ⟨_, 3, by rw [qb b4]; rfl, C_of_reps (xs := ([⟨1, 0, 0, 1, 0, 0⟩, ⟨1, 0, 0, 1, 0, 0⟩, ⟨3, 0, 1, 28, 0, 0⟩] : List S66)) b1 ?_ (by decide)⟩, ⟨_, 1, by rw [qb b4]; rfl, C_of_reps (xs := ([⟨1, 0, -1, 4, []⟩] : List S72)) b3 ?_ (by decide)⟩, by rw [qb b4]; rfl⟩
 ·exact (Reps.none _ _).snoc (p := (0 : Int)) (c := [.int .u32 0]) rfl rfl
 ·exact (((Reps.none _ _).snoc (k66_mk V ⟨1, 0, 0, 1, 0, 0⟩) rfl).snoc (k66_mk V ⟨1, 0, 0, 1, 0, 0⟩) rfl).snoc (k66_mk V ⟨3, 0, 1, 28, 0, 0⟩) rfl
 ·exact (Reps.none _ _).snoc (k72_mk V ⟨1, 0, -1, 4, []⟩ (c4 := 0) (by decide) (Kd.C_nil _ _)) rfl
theorem aw_check : checkB Bax = 0 := by decide +kernel
theorem aw_maps : Maps Bax := by
 intro n
 by_cases h : n.toNat = 0
 ·simp [qO, Bax, h]
 ·have : qO Bax.exits n = z72 := by
   unfold qO Bax
   rw [List.getD_eq_getElem?_getD, List.getElem?_eq_none (by simp; omega)]
   rfl
  rw [this]
  exact Nat.zero_le _
theorem aw_small : SmallB Bax := by
 refine ⟨by decide, by decide, by decide, fun x hx => ?_⟩
 simp only [Bax, List.mem_cons, List.not_mem_nil, or_false] at hx
 subst hx
 exact Nat.zero_le _
theorem aw_num : (numB alikeB Bax).ops = [⟨1, 0, 0, 1, 0, 0⟩, ⟨3, 0, 0, 28, 0, 0⟩] := by kernel_rfl
set_option maxHeartbeats 4000000 in
set_option maxRecDepth 100000 in
theorem awake29_c (w : World) : Calls Try.prog 27 #[] w fun e w' => e = .returned (.bool true) ∧ Below w.heap.size w w' := by
 have HDO := Lib.hid (fun v (hB : BlockAt v (w.heap.size + 1 + 1 + 1) Bax) => numdo_yes Bax (w.heap.size + 1 + 1 + 1) v hB aw_maps aw_small aw_check)
 go_enter Try.func27, Try.ntmps27
 go_wp2_with fail
 have HBA := Lib.hid (aw_block w)
 have HBB := Lib.hid (aw_below w)
 refine (HDO.out _ HBA.out).mono ?_
 rintro e w1 ⟨⟨gc, rfl, hN⟩, hb1⟩
 have HBB1 := Lib.hid (bthen HBB.out hb1)
 obtain ⟨A1, c1, u1, k1⟩ := hN.ops
 rw [aw_num] at u1 k1
 obtain ⟨ad, rfl, -, -, d2, -, -, -⟩ := at_T66 k1 1 (by decide) (by decide)
 have e2 : (qI ([⟨1, 0, 0, 1, 0, 0⟩, ⟨3, 0, 0, 28, 0, 0⟩] : List S66) 1).f2 = 0 := rfl
 rw [e2] at d2
 have u1' : w1.cell? ⟨gc, 1, none⟩ = some (.slice (some ad) 2 c1) := u1
 have d2' : w1.cell? ⟨(ad.add 6).block, (ad.add 6).off + 2, none⟩ = some (.int .i64 0) := d2
 have d2'' : w1.cell? ⟨ad.block, ad.off + 6 + 2, none⟩ = some (.int .i64 0) := by (first | simpa [go_sem] using d2' | (unfold Addr.add at d2'; split at d2' <;> simpa using d2'))
 clear hb1 hN k1 u1 d2 HDO HBA HBB e2
 go_wp2
 go_ret
 exact ⟨rfl, HBB1.out⟩
end Go.Proofs.Ytlnbghhhifnbdaa
