/- Proved: the law NumberAgain returns true: what number.Do makes of a right block is right, stays when shared again, and no two In, Const or Alu of it are alike. Conditions: the lists read as the given ones. -/
import Derived.Test.YtlnbghhhifnbdaaZYNh
import Derived.Test.YtlnbghhhifnbdaaZYNz
import Derived.Test.YtlnbghhhifnbdaaZYMb
import Derived.Test.YtlnbghhhifnbdaaZYTz
namespace Go.Proofs.Ytlnbghhhifnbdaa
open Go.RowKit Go.Proofs.YtlnbghhhifnbdaaW.PrintWords Go.Proofs.YtlnbghhhifnbdaaW.PrintLast Go.Proofs.YtlnbghhhifnbdaaW.PrintMore Go.Proofs.Ytlnbghhhifnbdaa.PNumberDoes
set_option linter.unusedVariables false
set_option linter.unusedSimpArgs false

def exR (tv : List Int) (x : S64) : S64 := ⟨x.f0, x.f1, if x.f2 = -1 then -1 else rd tv x.f2, x.f3, x.f4.map (fun v => ⟨v.f0, rd tv v.f1⟩)⟩
theorem exR_of (tv : List Int) (x : S64) : exitOf (exR tv x) = exN tv (exitOf x) := by
 unfold exitOf exR exN
 simp only [List.map_map]
 rfl
theorem bk_of (l : List S66) : (l.map opBk).map opOf = l := by
 rw [List.map_map]
 exact List.map_id'' (fun x => rfl) l
theorem num_blk (pcs : List Int) (ops : List S59) (exits : List S64) (last : Int) : numB alikeB (blkOf pcs ops exits last) = blkOf pcs ((runN alikeB (ops.map opOf)).1.map opBk) (exits.map (exR (runN alikeB (ops.map opOf)).2)) last := by
 show (⟨pcs, (runN alikeB (ops.map opOf)).1, (exits.map exitOf).map (exN (runN alikeB (ops.map opOf)).2), last⟩ : BlkV) = ⟨pcs, ((runN alikeB (ops.map opOf)).1.map opBk).map opOf, (exits.map (exR (runN alikeB (ops.map opOf)).2)).map exitOf, last⟩
 rw [bk_of, List.map_map, List.map_map]
 congr 1
 exact List.map_congr_left fun x _ => (exR_of _ x).symm
theorem light_num (pcs : List Int) (ops : List S59) (exits : List S64) (hL : lightB pcs ops exits = true) : lightB pcs ((runN alikeB (ops.map opOf)).1.map opBk) (exits.map (exR (runN alikeB (ops.map opOf)).2)) = true := by
 obtain ⟨a, b, c, d, -⟩ := light_maps pcs ops exits hL
 have h := (runN_len alikeB (ops.map opOf)).2.1
 rw [List.length_map] at h
 unfold lightB
 simp only [Bool.and_eq_true, decide_eq_true_eq, List.all_eq_true, List.length_map]
 refine ⟨a, by omega, c, fun x hx => ?_⟩
 obtain ⟨y, hy, rfl⟩ := List.mem_map.1 hx
 show (y.f4.map _).length ≤ 100
 rw [List.length_map]
 exact d y hy
theorem rsame_n (A0 A1 A2 D0 D1 D2 : Option Addr) (c0 c1 c2 d0 d1 d2 : Nat) (last : Int) (pcs : List Int) (ops : List S59) (exits : List S64) (lp lo le : Nat) (hp : pcs.length = lp) (ho : ops.length = lo) (he : exits.length = le) (hL : lightB pcs ops exits = true) (w : World)
  (hk : Hid ((Kd.int .u32).C w D0 lp pcs ∧ k59.C w D1 lo ops ∧ k64.C w D2 le exits)) (h : Hid ((Kd.int .u32).C w A0 lp pcs ∧ k59.C w A1 lo ops ∧ k64.C w A2 le exits)) :
  Calls Try.prog 23 #[.agg #[.slice D0 lp d0, .slice D1 lo d1, .slice D2 le d2, .int .i64 last], .agg #[.slice A0 lp c0, .slice A1 lo c1, .slice A2 le c2, .int .i64 last]] w fun e w' => e = .returned (.bool true) ∧ Below w.heap.size w w' := by
 subst hp ho he
 obtain ⟨a, b, c, d, -⟩ := light_maps pcs ops exits hL
 have dm : ∀ x ∈ exits, x.f4.length ≤ 1000000 := fun x hx => by have := d x hx; omega
 refine (rsame_c D0 D1 D2 A0 A1 A2 d0 d1 d2 c0 c1 c2 last last pcs pcs ops ops exits exits (by omega) (by omega) (by omega) dm dm w hk.out.1 hk.out.2.1 hk.out.2.2 h.out.1 h.out.2.1 h.out.2.2).mono ?_
 rintro e w' ⟨hr, hb⟩
 refine ⟨?_, hb⟩
 rw [SameR.dec hr, decG_yes ⟨rfl, rfl, rfl, rfl⟩]
theorem alike_code {a b : S66} (h : alikeB a b = true) : a.f0 = b.f0 := by
 unfold alikeB at h
 by_cases e : a.f0 = b.f0
 ·exact e
 ·rw [if_pos e] at h; cases h
theorem fndR_some (o : S66) (l : List S66) : 0 ≤ (fndR alikeB o l).2 → ∃ x, l[(fndR alikeB o l).2.toNat]? = some x ∧ alikeB x o = true := by
 refine rev_ind (p := fun l => 0 ≤ (fndR alikeB o l).2 → ∃ x, l[(fndR alikeB o l).2.toNat]? = some x ∧ alikeB x o = true) (fun h => absurd h (show ¬ (0 : Int) ≤ -1 by decide)) (fun l x ih h => ?_) l
 rw [fndR_add, fndR_len] at h ⊢
 by_cases h5 : x.f0 = 5 ∧ o.f0 = 4
 ·rw [if_pos h5] at h; exact absurd h (show ¬ (0 : Int) ≤ -1 by decide)
 rw [if_neg h5] at h ⊢
 by_cases hq : (fndR alikeB o l).2 < 0 ∧ alikeB x o = true
 ·rw [if_pos hq]
  exact ⟨x, by simp, hq.2⟩
 ·rw [if_neg hq] at h ⊢
  obtain ⟨y, hy, ha⟩ := ih h
  refine ⟨y, ?_, ha⟩
  rw [List.getElem?_append_left (List.getElem?_eq_some_iff.1 hy).1]
  exact hy
theorem fndF_none (o : S66) (l : List S66) : (fndF alikeB 0 o l).2 < 0 → ∀ (q : Nat) (x : S66), l[q]? = some x → alikeB x o = false := by
 refine rev_ind (p := fun l => (fndF alikeB 0 o l).2 < 0 → ∀ (q : Nat) (x : S66), l[q]? = some x → alikeB x o = false) (fun _ q x h => by simp at h) (fun l y ih h => ?_) l
 rw [fndF_add, fndF_len] at h
 by_cases hq : (fndF alikeB 0 o l).2 < 0 ∧ (0 : Int) ≤ (l.length : Int) ∧ alikeB y o = true
 ·rw [if_pos hq] at h
  exact absurd h (by show ¬ ((l.length : Int) < 0); omega)
 rw [if_neg hq] at h
 intro q x hx
 by_cases e : q < l.length
 ·rw [List.getElem?_append_left e] at hx
  exact ih h q x hx
 ·rw [List.getElem?_append_right (by omega)] at hx
  have e2 : q - l.length = 0 := by have := (List.getElem?_eq_some_iff.1 hx).1; simp at this; omega
  rw [e2] at hx
  simp at hx
  subst hx
  cases hA : alikeB y o
  ·rfl
  ·exact absurd ⟨h, by omega, hA⟩ hq
theorem rd_app (tv : List Int) (x n : Int) (h0 : 0 ≤ n) (h1 : n < (tv.length : Int)) : rd (tv ++ [x]) n = rd tv n := by
 unfold rd
 rw [List.getD_eq_getElem?_getD, List.getD_eq_getElem?_getD, List.getElem?_append_left (by omega)]
def namedO (o : S66) (k : Nat) : Prop := (o.f0 = 3 ∨ o.f0 = 4 ∨ o.f0 = 5 ∨ o.f0 = 6 → 0 ≤ o.f1 ∧ o.f1 < (k : Int)) ∧ (o.f0 = 3 ∨ o.f0 = 5 ∨ o.f0 = 6 → 0 ≤ o.f2 ∧ o.f2 < (k : Int))
theorem nmO_app (tv : List Int) (x : Int) (o : S66) (h : namedO o tv.length) : nmO (tv ++ [x]) o = nmO tv o := by
 unfold nmO
 by_cases h3 : o.f0 = 3 ∨ o.f0 = 5 ∨ o.f0 = 6
 ·obtain ⟨a, b⟩ := h.1 (by omega)
  obtain ⟨c, d⟩ := h.2 h3
  rw [if_pos h3, if_pos h3, rd_app tv x _ a b, rd_app tv x _ c d]
 ·rw [if_neg h3, if_neg h3]
  by_cases h4 : o.f0 = 4
  ·obtain ⟨a, b⟩ := h.1 (by omega)
   rw [if_pos h4, if_pos h4, rd_app tv x _ a b]
  ·rw [if_neg h4, if_neg h4]
theorem namedO.mono {o : S66} {k m : Nat} (h : namedO o k) (hk : k ≤ m) : namedO o m := ⟨fun q => by have := h.1 q; omega, fun q => by have := h.2 q; omega⟩
theorem rd_mem {tv : List Int} {n : Int} (h0 : 0 ≤ n) (h1 : n < (tv.length : Int)) : rd tv n ∈ tv := by
 unfold rd
 rw [List.getD_eq_getElem?_getD, List.getElem?_eq_getElem (by omega)]
 exact List.getElem_mem _
theorem rd_last (tv : List Int) (x : Int) : rd (tv ++ [x]) (tv.length : Int) = x := by
 unfold rd
 rw [List.getD_eq_getElem?_getD]
 simp
structure RunI (ops l : List S66) (tv : List Int) : Prop where
 code : ∀ (n : Nat) (o : S66), ops[n]? = some o → ∃ o', l[(rd tv (n : Int)).toNat]? = some o' ∧ o'.f0 = o.f0
 src : ∀ (p : Nat) (o' : S66), l[p]? = some o' → ∃ (k : Nat) (o : S66), ops[k]? = some o ∧ o' = nmO tv o ∧ ∀ n : Int, 0 ≤ n → n < (k : Int) → rd tv n < (p : Int)
 none : ∀ (p : Nat) (o' : S66), l[p]? = some o' → (fndR alikeB o' (l.take p)).2 < 0
theorem RunI.step {ops l : List S66} {tv : List Int} {o : S66} (h : RunI ops l tv) (ht : tv.length = ops.length) (hb : ∀ x ∈ tv, 0 ≤ x ∧ x < (l.length : Int)) (hno : namedO o ops.length) (hnk : ∀ (k : Nat) (x : S66), ops[k]? = some x → namedO x tv.length) :
  RunI (ops ++ [o]) (stepN alikeB (l, tv) o).1 (stepN alikeB (l, tv) o).2 := by
 have hno' : namedO o tv.length := by rw [ht]; exact hno
 have hcn : ∀ (x : Int) (n : Nat) (y : S66), ops[n]? = some y → rd (tv ++ [x]) (n : Int) = rd tv (n : Int) := fun x n y hy => rd_app tv x _ (by omega) (by have := (List.getElem?_eq_some_iff.1 hy).1; omega)
 have hsrc : ∀ (x : Int) (p : Nat) (o' : S66), l[p]? = some o' → ∃ (k : Nat) (y : S66), (ops ++ [o])[k]? = some y ∧ o' = nmO (tv ++ [x]) y ∧ ∀ n : Int, 0 ≤ n → n < (k : Int) → rd (tv ++ [x]) n < (p : Int) := by
  intro x p o' hp
  obtain ⟨k, y, hy, he, hlt⟩ := h.src p o' hp
  have hk := (List.getElem?_eq_some_iff.1 hy).1
  refine ⟨k, y, by rw [List.getElem?_append_left hk]; exact hy, by rw [nmO_app tv x y (hnk k y hy)]; exact he, fun n h0 h1 => ?_⟩
  rw [rd_app tv x n h0 (by omega)]
  exact hlt n h0 h1
 have estep : stepN alikeB (l, tv) o = (if 0 ≤ (fndR alikeB (nmO tv o) l).2 then (l, tv ++ [(fndR alikeB (nmO tv o) l).2]) else (l ++ [nmO tv o], tv ++ [(l.length : Int)])) := rfl
 rw [estep]
 by_cases hf : 0 ≤ (fndR alikeB (nmO tv o) l).2
 ·rw [if_pos hf]
  refine ⟨fun n y hy => ?_, hsrc _, h.none⟩
  by_cases e : n < ops.length
  ·rw [List.getElem?_append_left e] at hy
   show ∃ o', l[(rd (tv ++ [_]) (n : Int)).toNat]? = some o' ∧ _
   rw [hcn _ n y hy]
   exact h.code n y hy
  ·have hn : n = ops.length := by have := (List.getElem?_eq_some_iff.1 hy).1; simp at this; omega
   subst hn
   rw [List.getElem?_append_right (Nat.le_refl _), Nat.sub_self] at hy
   simp at hy
   subst hy
   show ∃ o', l[(rd (tv ++ [_]) (ops.length : Int)).toNat]? = some o' ∧ _
   rw [← ht, rd_last]
   obtain ⟨x, hx, hA⟩ := fndR_some _ _ hf
   exact ⟨x, hx, (alike_code hA).trans (nmO_code tv o)⟩
 ·rw [if_neg hf]
  refine ⟨fun n y hy => ?_, fun p o' hp => ?_, fun p o' hp => ?_⟩
  ·by_cases e : n < ops.length
   ·rw [List.getElem?_append_left e] at hy
    show ∃ o', (l ++ [_])[(rd (tv ++ [_]) (n : Int)).toNat]? = some o' ∧ _
    rw [hcn _ n y hy]
    obtain ⟨x, hx, hc⟩ := h.code n y hy
    exact ⟨x, by rw [List.getElem?_append_left (List.getElem?_eq_some_iff.1 hx).1]; exact hx, hc⟩
   ·have hn : n = ops.length := by have := (List.getElem?_eq_some_iff.1 hy).1; simp at this; omega
    subst hn
    rw [List.getElem?_append_right (Nat.le_refl _), Nat.sub_self] at hy
    simp at hy
    subst hy
    show ∃ o', (l ++ [_])[(rd (tv ++ [_]) (ops.length : Int)).toNat]? = some o' ∧ _
    rw [← ht, rd_last]
    exact ⟨nmO tv o, by simp, nmO_code tv o⟩
  ·by_cases e : p < l.length
   ·replace hp : (l ++ [nmO tv o])[p]? = some o' := hp
    rw [List.getElem?_append_left e] at hp
    exact hsrc _ p o' hp
   ·replace hp : (l ++ [nmO tv o])[p]? = some o' := hp
    have hn : p = l.length := by have := (List.getElem?_eq_some_iff.1 hp).1; simp at this; omega
    subst hn
    rw [List.getElem?_append_right (Nat.le_refl _), Nat.sub_self] at hp
    simp at hp
    subst hp
    refine ⟨ops.length, o, by simp, (nmO_app tv _ o hno').symm, fun n h0 h1 => ?_⟩
    show rd (tv ++ [_]) n < _
    rw [rd_app tv _ n h0 (by omega)]
    exact (hb _ (rd_mem h0 (by omega))).2
  ·by_cases e : p < l.length
   ·replace hp : (l ++ [nmO tv o])[p]? = some o' := hp
    rw [List.getElem?_append_left e] at hp
    show (fndR alikeB o' ((l ++ [_]).take p)).2 < 0
    rw [List.take_append_of_le_length (Nat.le_of_lt e)]
    exact h.none p o' hp
   ·replace hp : (l ++ [nmO tv o])[p]? = some o' := hp
    have hn : p = l.length := by have := (List.getElem?_eq_some_iff.1 hp).1; simp at this; omega
    subst hn
    rw [List.getElem?_append_right (Nat.le_refl _), Nat.sub_self] at hp
    simp at hp
    subst hp
    show (fndR alikeB (nmO tv o) ((l ++ [_]).take l.length)).2 < 0
    rw [List.take_append_of_le_length (Nat.le_refl _), List.take_length]
    omega
theorem run_inv (ops : List S66) : (∀ (k : Nat) (o : S66), ops[k]? = some o → namedO o k) → RunI ops (runN alikeB ops).1 (runN alikeB ops).2 := by
 refine rev_ind (p := fun ops => (∀ (k : Nat) (o : S66), ops[k]? = some o → namedO o k) → RunI ops (runN alikeB ops).1 (runN alikeB ops).2) (fun _ => ⟨fun n o h => by simp at h, fun p o h => by simp [runN] at h, fun p o h => by simp [runN] at h⟩) (fun ops o ih hn => ?_) ops
 have hn1 : ∀ (k : Nat) (x : S66), ops[k]? = some x → namedO x k := fun k x hx => hn k x (by rw [List.getElem?_append_left (List.getElem?_eq_some_iff.1 hx).1]; exact hx)
 have hi := ih hn1
 obtain ⟨ht1, ht2, ht3⟩ := runN_len alikeB ops
 rw [runN_add]
 exact hi.step ht1 ht3 (hn ops.length o (by simp)) fun k x hx => (hn1 k x hx).mono (by have := (List.getElem?_eq_some_iff.1 hx).1; omega)
theorem run_stays (l : List S66) : (∀ (p : Nat) (o : S66), l[p]? = some o → namedO o p ∧ (fndR alikeB o (l.take p)).2 < 0) → runN alikeB l = (l, (List.range l.length).map (fun i : Nat => (i : Int))) := by
 refine rev_ind (p := fun l => (∀ (p : Nat) (o : S66), l[p]? = some o → namedO o p ∧ (fndR alikeB o (l.take p)).2 < 0) → runN alikeB l = (l, (List.range l.length).map (fun i : Nat => (i : Int)))) (fun _ => rfl) (fun l o ih h => ?_) l
 have hi := ih fun p x hx => by
  have hlt := (List.getElem?_eq_some_iff.1 hx).1
  have := h p x (by rw [List.getElem?_append_left hlt]; exact hx)
  rw [List.take_append_of_le_length (Nat.le_of_lt hlt)] at this
  exact this
 obtain ⟨h1, h2⟩ := h l.length o (by simp)
 rw [List.take_append_of_le_length (Nat.le_refl _), List.take_length] at h2
 rw [runN_add, hi]
 have hid : ∀ n : Int, 0 ≤ n → n < (l.length : Int) → rd ((List.range l.length).map (fun i : Nat => (i : Int))) n = n := fun n h0 h1 => by
  unfold rd
  rw [List.getD_eq_getElem?_getD, List.getElem?_map, List.getElem?_range (by omega)]
  simp
  omega
 have hnm : nmO ((List.range l.length).map (fun i : Nat => (i : Int))) o = o := by
  unfold nmO
  by_cases h3 : o.f0 = 3 ∨ o.f0 = 5 ∨ o.f0 = 6
  ·obtain ⟨a, b⟩ := h1.1 (by omega)
   obtain ⟨c, d⟩ := h1.2 h3
   rw [if_pos h3, hid _ a b, hid _ c d]
  ·rw [if_neg h3]
   by_cases h4 : o.f0 = 4
   ·obtain ⟨a, b⟩ := h1.1 (by omega)
    rw [if_pos h4, hid _ a b]
   ·rw [if_neg h4]
 generalize hT : (List.range l.length).map (fun i : Nat => (i : Int)) = T at *
 have estep : stepN alikeB (l, T) o = (if 0 ≤ (fndR alikeB (nmO T o) l).2 then (l, T ++ [(fndR alikeB (nmO T o) l).2]) else (l ++ [nmO T o], T ++ [(l.length : Int)])) := rfl
 rw [estep, hnm, if_neg (by omega), ← hT]
 simp [List.range_succ]
theorem RightN.name {B : BlkV} (h : RightN B) (k : Nat) (o : S66) (hk : B.ops[k]? = some o) : namedO o k := h.ops k o hk
theorem rdO_of {l : List S66} {n : Int} {o : S66} (h : l[n.toNat]? = some o) : qI l n = o := by
 unfold qI
 rw [List.getD_eq_getElem?_getD, h]
 rfl
section
variable {B : BlkV} (hR : RightN B)
include hR
theorem val_num {n k p : Int} (hk : k ≤ (B.ops.length : Int)) (hb : ∀ n : Int, 0 ≤ n → n < k → rd (runN alikeB B.ops).2 n < p) (h : valB B n k = true) : valB (numB alikeB B) (rd (runN alikeB B.ops).2 n) p = true := by
 have hi := run_inv B.ops fun k o hk => hR.name k o hk
 obtain ⟨ht1, ht2, ht3⟩ := runN_len alikeB B.ops
 unfold valB at h ⊢
 simp only [Bool.and_eq_true, decide_eq_true_eq] at h ⊢
 obtain ⟨h0, h1, h2, h3⟩ := h
 have hm := ht3 _ (rd_mem h0 (by omega))
 refine ⟨hm.1, hb n h0 h1, hm.2, ?_⟩
 have hn : B.ops[n.toNat]? = some B.ops[n.toNat] := List.getElem?_eq_getElem (by omega)
 obtain ⟨o', ho, hc⟩ := hi.code n.toNat _ hn
 rw [show ((n.toNat : Nat) : Int) = n by omega] at ho
 rw [rdO_of (o := B.ops[n.toNat]) hn] at h3
 rw [show qI (numB alikeB B).ops (rd (runN alikeB B.ops).2 n) = o' from rdO_of ho, hc]
 exact h3
theorem exit_num {x k p : Int} (hk : k ≤ (B.ops.length : Int)) (hb : ∀ n : Int, 0 ≤ n → n < k → rd (runN alikeB B.ops).2 n < p) (h : exitB B x k = true) : exitB (numB alikeB B) x p = true ∧ qO (numB alikeB B).exits x = exN (runN alikeB B.ops).2 (qO B.exits x) := by
 have hv := fun n => val_num hR (n := n) hk hb
 unfold exitB at h ⊢
 simp only [Bool.and_eq_true, Bool.or_eq_true, decide_eq_true_eq, Bool.not_eq_true', List.any_eq_false] at h ⊢
 obtain ⟨h0, h1, h2, h3⟩ := h
 have he : (numB alikeB B).exits = B.exits.map (exN (runN alikeB B.ops).2) := rfl
 have hx : B.exits[x.toNat]? = some B.exits[x.toNat] := List.getElem?_eq_getElem (by omega)
 have hq : qO B.exits x = B.exits[x.toNat] := by
  unfold qO
  rw [List.getD_eq_getElem?_getD, hx]
  rfl
 have hq' : qO (numB alikeB B).exits x = exN (runN alikeB B.ops).2 (qO B.exits x) := by
  rw [hq, he]
  unfold qO
  rw [List.getD_eq_getElem?_getD, List.getElem?_map, hx]
  rfl
 refine ⟨⟨h0, by rw [he, List.length_map]; exact h1, ?_, ?_⟩, hq'⟩
 ·rw [hq']
  unfold exN
  by_cases e : (qO B.exits x).f2 = -1
  ·exact .inl (if_pos e)
  ·right
   show valB (numB alikeB B) (if _ then _ else _) p = true
   rw [if_neg e]
   exact hv _ (h2.resolve_left e)
 ·rw [hq']
  intro v hv'
  obtain ⟨u, hu, rfl⟩ := List.mem_map.1 (show v ∈ (qO B.exits x).f4.map (fun v => (⟨v.f0, rd (runN alikeB B.ops).2 v.f1⟩ : S69)) from hv')
  have h4 := h3 u hu
  unfold badB at h4 ⊢
  have h5 : valB B u.f1 k = true := by simpa using h4
  have := hv _ h5
  simpa using this
end
theorem kindB_nm (tv : List Int) (o : S66) : kindB (nmO tv o) = kindB o := by
 unfold nmO
 by_cases h : o.f0 = 3 ∨ o.f0 = 5 ∨ o.f0 = 6
 ·rw [if_pos h]; rfl
 ·rw [if_neg h]
  by_cases h4 : o.f0 = 4
  ·rw [if_pos h4]; rfl
  ·rw [if_neg h4]
theorem namedB_nm (tv : List Int) (o : S66) : namedB (nmO tv o) = namedB o := by
 unfold nmO namedB
 by_cases h5 : o.f0 = 5
 ·simp [h5]
 by_cases h6 : o.f0 = 6
 ·simp [h6]
 by_cases h3 : o.f0 = 3
 ·simp [h3]
 by_cases h4 : o.f0 = 4
 ·simp [h4]
 ·simp [h3, h4, h5, h6]
theorem uses_nm (tv : List Int) (o : S66) : usesL (nmO tv o) = (usesL o).map (rd tv) := by
 unfold usesL
 rw [nmO_code]
 unfold nmO
 by_cases h : o.f0 = 3 ∨ o.f0 = 5 ∨ o.f0 = 6
 ·simp only [if_pos h]; rfl
 ·simp only [if_neg h]
  by_cases h4 : o.f0 = 4
  ·simp only [if_pos h4]; rfl
  ·simp only [if_neg h4]; rfl
theorem nm_xy (tv : List Int) (o : S66) : (nmO tv o).f4 = o.f4 ∧ (nmO tv o).f5 = o.f5 ∧ (nmO tv o).f3 = o.f3 := by
 unfold nmO
 by_cases h : o.f0 = 3 ∨ o.f0 = 5 ∨ o.f0 = 6
 ·rw [if_pos h]; exact ⟨rfl, rfl, rfl⟩
 ·rw [if_neg h]
  by_cases h4 : o.f0 = 4
  ·rw [if_pos h4]; exact ⟨rfl, rfl, rfl⟩
  ·rw [if_neg h4]; exact ⟨rfl, rfl, rfl⟩
theorem rising_nm (tv : List Int) (l : List S69) : ∀ last : Int, risingB last (l.map (fun v => (⟨v.f0, rd tv v.f1⟩ : S69))) = risingB last l := by
 induction l with
 | nil => intro last; rfl
 | cons v l ih =>
  intro last
  show (!decide (v.f0 ≤ last) && (!decide (31 < v.f0) && risingB v.f0 (l.map _))) = (!decide (v.f0 ≤ last) && (!decide (31 < v.f0) && risingB v.f0 l))
  rw [ih]
theorem num_check {B : BlkV} (h : checkB B = 0) : checkB (numB alikeB B) = 0 := by
 have hR := rightN_of h
 have hi := run_inv B.ops fun k o hk => hR.name k o hk
 obtain ⟨ht1, ht2, ht3⟩ := runN_len alikeB B.ops
 have hr : rightB B = true := by
  unfold checkB at h
  split at h
  ·exact absurd h (by decide)
  ·split at h
   ·assumption
   ·exact absurd h (by decide)
 have hall : ∀ n : Int, 0 ≤ n → n < (B.ops.length : Int) → rd (runN alikeB B.ops).2 n < ((runN alikeB B.ops).1.length : Int) := fun n h0 h1 => (ht3 _ (rd_mem h0 (by omega))).2
 have hl : (numB alikeB B).ops = (runN alikeB B.ops).1 := rfl
 have hel : (numB alikeB B).exits.length = B.exits.length := List.length_map _
 have hsz := hR.lo
 have hsz2 := hR.le
 have hsz3 := hR.lp
 unfold checkB
 rw [if_neg (by rw [hl, hel, show (numB alikeB B).pcs = B.pcs from rfl]; omega), if_pos]
 unfold rightB at hr ⊢
 simp only [Bool.and_eq_true, List.all_eq_true, List.mem_range] at hr ⊢
 obtain ⟨r1, r2, r3, r4, r5⟩ := hr
 refine ⟨fun p hp => ?_, fun n hn => ?_, r3, r4, (exit_num hR (Int.le_refl _) hall r5).1⟩
 ·obtain ⟨k, o, hk, he, hb⟩ := hi.src p _ (List.getElem?_eq_getElem (by rw [hl] at hp; exact hp))
  have hkl := (List.getElem?_eq_some_iff.1 hk).1
  have ho := r1 k hkl
  have hq : qI B.ops (k : Int) = o := rdO_of (by simpa using hk)
  have hq' : qI (numB alikeB B).ops (p : Int) = nmO (runN alikeB B.ops).2 o := by
   rw [← he]
   exact rdO_of (by rw [Int.toNat_natCast]; exact List.getElem?_eq_getElem (l := (numB alikeB B).ops) hp)
  unfold opB at ho ⊢
  rw [hq] at ho
  rw [hq', kindB_nm, namedB_nm, uses_nm, nmO_code, (nm_xy _ o).1, (nm_xy _ o).2.1]
  simp only [Bool.and_eq_true, List.all_eq_true] at ho ⊢
  obtain ⟨o1, o2, o3, o4⟩ := ho
  have hkk : (k : Int) ≤ (B.ops.length : Int) := by omega
  refine ⟨o1, o2, fun x hx => ?_, ?_⟩
  ·obtain ⟨n, hn, rfl⟩ := List.mem_map.1 hx
   exact val_num hR hkk hb (o3 n hn)
  ·by_cases h5 : o.f0 = 5
   ·rw [if_pos h5] at o4 ⊢
    rw [Bool.and_eq_true] at o4 ⊢
    exact ⟨(exit_num hR hkk hb o4.1).1, (exit_num hR hkk hb o4.2).1⟩
   ·rw [if_neg h5] at o4 ⊢
    by_cases h4 : o.f0 = 4 ∨ o.f0 = 6
    ·rw [if_pos h4] at o4 ⊢
     exact (exit_num hR hkk hb o4).1
    ·rw [if_neg h4]
 ·have hn' := r2 n (by rw [hel] at hn; exact hn)
  unfold leavesB at hn' ⊢
  simp only [Bool.and_eq_true] at hn' ⊢
  obtain ⟨l1, l2, l3, l4, l5, l6, l7⟩ := hn'
  obtain ⟨x1, x2⟩ := exit_num hR (Int.le_refl _) hall l1
  rw [x2]
  refine ⟨x1, l2, l3, l4, l5, l6, ?_⟩
  rw [show (exN (runN alikeB B.ops).2 (qO B.exits (n : Int))).f4 = (qO B.exits (n : Int)).f4.map (fun v => (⟨v.f0, rd (runN alikeB B.ops).2 v.f1⟩ : S69)) from rfl, rising_nm]
  exact l7
theorem num_again {B : BlkV} (h : checkB B = 0) : numB alikeB (numB alikeB B) = numB alikeB B := by
 have hR := rightN_of h
 have hi := run_inv B.ops fun k o hk => hR.name k o hk
 have hR2 := rightN_of (num_check h)
 have hst := run_stays (runN alikeB B.ops).1 fun p o hp => ⟨hR2.name p o hp, hi.none p o hp⟩
 have hid : ∀ n : Int, 0 ≤ n → n < ((runN alikeB B.ops).1.length : Int) → rd ((List.range (runN alikeB B.ops).1.length).map (fun i : Nat => (i : Int))) n = n := fun n h0 h1 => by
  unfold rd
  rw [List.getD_eq_getElem?_getD, List.getElem?_map, List.getElem?_range (by omega)]
  simp
  omega
 have hex : (numB alikeB B).exits.map (exN (runN alikeB (runN alikeB B.ops).1).2) = (numB alikeB B).exits := by
  rw [hst]
  ·apply List.ext_getElem?
   intro n
   rw [List.getElem?_map]
   rcases hq : (numB alikeB B).exits[n]? with _ | x
   ·rfl
   ·have ht := hR2.tv n x hq
    have hm := hR2.map n x hq
    show some (exN _ x) = some x
    congr 1
    unfold exN
    have e1 : (if x.f2 = -1 then (-1 : Int) else rd ((List.range (runN alikeB B.ops).1.length).map (fun i : Nat => (i : Int))) x.f2) = x.f2 := by
     by_cases e : x.f2 = -1
     ·rw [if_pos e, e]
     ·obtain ⟨a, b⟩ := ht.resolve_left e
      rw [if_neg e, hid _ a b]
    have e2 : x.f4.map (fun v => (⟨v.f0, rd ((List.range (runN alikeB B.ops).1.length).map (fun i : Nat => (i : Int))) v.f1⟩ : S69)) = x.f4 := by
     conv => rhs; rw [← List.map_id x.f4]
     refine List.map_congr_left fun v hv => ?_
     obtain ⟨a, b⟩ := hm v hv
     rw [hid _ a b]
     rfl
    rw [e1, e2]
 show (⟨B.pcs, (runN alikeB (runN alikeB B.ops).1).1, (numB alikeB B).exits.map (exN (runN alikeB (runN alikeB B.ops).1).2), B.last⟩ : BlkV) = ⟨B.pcs, (runN alikeB B.ops).1, (numB alikeB B).exits, B.last⟩
 rw [hex, hst]
theorem num_apart {B : BlkV} (h : checkB B = 0) (p q : Nat) (x y : S66) (hp : (numB alikeB B).ops[p]? = some x) (hq : (numB alikeB B).ops[q]? = some y) (hlt : q < p) (hc : x.f0 ≤ 3) : alikeB y x = false := by
 have hR := rightN_of h
 have hi := run_inv B.ops fun k o hk => hR.name k o hk
 have hn := hi.none p x hp
 rw [fnd_eq, if_neg (by omega)] at hn
 refine fndF_none x _ hn q y ?_
 rw [List.getElem?_take, if_pos hlt]
 exact hq
theorem ralike_c (a b : S59) (w : World) : Calls Try.prog 30 #[.agg #[.int .i64 a.f0, .int .i64 a.f1, .int .i64 a.f2, .int .u32 a.f3, .int .i64 a.f4, .int .i64 a.f5], .agg #[.int .i64 b.f0, .int .i64 b.f1, .int .i64 b.f2, .int .u32 b.f3, .int .i64 b.f4, .int .i64 b.f5]] w fun e w' => e = .returned (.bool (alikeB (opOf a) (opOf b))) ∧ Below w.heap.size w w' :=
 mimesisref29_Alike.calls 1 _ _ _ _ _ _ _ _ _ _ _ _ _ w (ralike_f 0 a b)
structure AgS (wr : World) (b t gd : Nat) (Z0 Z1 Z2 : Option Addr) (z0 z1 z2 lp ln le : Nat) (last : Int) (pcs : List Int) (L : List S59) (E : List S64) (A1 : Option Addr) (lo c1 : Nat) (Bn : BlkV) : Prop where
 y0 : wr.cell? ⟨t, 0, none⟩ = some (.slice Z0 lp z0)
 y1 : wr.cell? ⟨t, 1, none⟩ = some (.slice Z1 ln z1)
 y2 : wr.cell? ⟨t, 2, none⟩ = some (.slice Z2 le z2)
 y3 : wr.cell? ⟨t, 3, none⟩ = some (.int .i64 last)
 a1 : wr.cell? ⟨b, 1, none⟩ = some (.slice A1 lo c1)
 k : (Kd.int .u32).C wr Z0 lp pcs ∧ k59.C wr Z1 ln L ∧ k64.C wr Z2 le E
 g : BlockAt wr gd Bn
theorem AgS.below {wr w1 : World} {b t gd : Nat} {Z0 Z1 Z2 : Option Addr} {z0 z1 z2 lp ln le : Nat} {last : Int} {pcs : List Int} {L : List S59} {E : List S64} {A1 : Option Addr} {lo c1 : Nat} {Bn : BlkV} (h : AgS wr b t gd Z0 Z1 Z2 z0 z1 z2 lp ln le last pcs L E A1 lo c1 Bn) (hb : Below wr.heap.size wr w1) : AgS w1 b t gd Z0 Z1 Z2 z0 z1 z2 lp ln le last pcs L E A1 lo c1 Bn :=
 ⟨cellk hb h.y0, cellk hb h.y1, cellk hb h.y2, cellk hb h.y3, cellk hb h.a1, ⟨Kd.qp h.k.1 hb, Kd.qp h.k.2.1 hb, Kd.qp h.k.2.2 hb⟩, h.g.below hb⟩
set_option maxHeartbeats 8000000 in
set_option maxRecDepth 100000 in
theorem numberagain_c (A0 A1 A2 : Option Addr) (c0 c1 c2 : Nat) (last : Int) (pcs : List Int) (ops : List S59) (exits : List S64) (w : World) (h : ArgB w A0 A1 A2 c0 c1 c2 pcs ops exits) :
  Calls Try.prog 8 #[.agg #[.slice A0 pcs.length c0, .slice A1 ops.length c1, .slice A2 exits.length c2, .int .i64 last]] w fun e w' => e = .returned (.bool true) ∧ Below w.heap.size w w' := by
 have HLI := Lib.hid (fun v (hb : Below w.heap.size w v) => light_c A0 A1 A2 c0 c1 c2 last pcs ops exits v (h.below hb))
 have HAW := Lib.hid (fun v => awake29_c v)
 rcases Bool.eq_false_or_eq_true (lightB pcs ops exits) with hL | hL
 case inr =>
  rw [hL] at HLI
  clear h hL
  go_enter Try.func8, Try.ntmps8
  go_wp2_with fail
  refine (HLI.out _ (bal (Below.refl _ _) _)).mono ?_
  rintro e w1 ⟨rfl, hb1⟩
  have HB1 := Lib.hid (bthen (bal (Below.refl w.heap.size w) _) hb1)
  clear hb1 HLI
  go_wp2_with fail
  refine (HAW.out _).mono ?_
  rintro e w2 ⟨rfl, hb2⟩
  have HB2 := Lib.hid (bthen HB1.out hb2)
  clear hb2
  go_wp2
  go_ret
  exact ⟨rfl, HB2.out⟩
 have HRC := Lib.hid (fun v (hb : Below w.heap.size w v) => rcheck_c A0 A1 A2 c0 c1 c2 last pcs ops exits hL v (h.below hb))
 rcases Classical.em (checkB (blkOf pcs ops exits last) = 0) with hK | hK
 case inr =>
  have t1 : (checkB (blkOf pcs ops exits last) != 0) = true := bne_iff_ne.2 hK
  rw [hL] at HLI
  clear h hL hK
  generalize pcs.length = lp at *
  generalize ops.length = lo at *
  generalize exits.length = le at *
  generalize checkB (blkOf pcs ops exits last) = c at *
  go_enter Try.func8, Try.ntmps8
  go_wp2_with fail
  refine (HLI.out _ (bal (Below.refl _ _) _)).mono ?_
  rintro e w1 ⟨rfl, hb1⟩
  have d0 := cellk hb1 (a := ⟨w.heap.size, 0, none⟩) (v := .slice A0 lp c0) (by simp [go_sem])
  have d1 := cellk hb1 (a := ⟨w.heap.size, 1, none⟩) (v := .slice A1 lo c1) (by simp [go_sem])
  have d2 := cellk hb1 (a := ⟨w.heap.size, 2, none⟩) (v := .slice A2 le c2) (by simp [go_sem])
  have d3 := cellk hb1 (a := ⟨w.heap.size, 3, none⟩) (v := .int .i64 last) (by simp [go_sem])
  have HB1 := Lib.hid (bthen (bal (Below.refl w.heap.size w) _) hb1)
  clear hb1 HLI
  go_wp2_with fail
  refine (HRC.out _ HB1.out).mono ?_
  rintro e w4 ⟨rfl, hb4⟩
  have HB4 := Lib.hid (bthen HB1.out hb4)
  clear hb4 HB1 HRC d0 d1 d2 d3
  go_wp2_with fail
  refine (HAW.out _).mono ?_
  rintro e w5 ⟨rfl, hb5⟩
  have HB5 := Lib.hid (bthen HB4.out hb5)
  clear hb5
  go_wp2
  go_ret
  exact ⟨rfl, HB5.out⟩
 have HOW := Lib.hid (fun v (hb : Below w.heap.size w v) => own_a A0 A1 A2 c0 c1 c2 last pcs ops exits hL v (h.below hb))
 obtain ⟨m1, m2, m3, m4⟩ := blk_maps pcs ops exits last hL
 have sB := small_of pcs ops exits last hL
 have HDY := Lib.hid (fun g v (hB : BlockAt v g (blkOf pcs ops exits last)) => numdo_yes _ g v hB m1 sB hK)
 have hLn := light_num pcs ops exits hL
 have hnb := num_blk pcs ops exits last
 have hK2 := num_check hK
 have hag := num_again hK
 have hap := fun (p q : Nat) (x y : S66) => num_apart hK p q x y
 rw [hnb] at hK2 hag hap
 obtain ⟨n1, -, -, -⟩ := blk_maps pcs _ _ last hLn
 have sN := small_of pcs _ _ last hLn
 have HDZ := Lib.hid (fun g v (hB : BlockAt v g (blkOf pcs ((runN alikeB (ops.map opOf)).1.map opBk) (exits.map (exR (runN alikeB (ops.map opOf)).2)) last)) => numdo_yes _ g v hB n1 sN hK2)
 rw [hag] at HDZ
 rw [hnb] at HDY
 have e1 : ((runN alikeB (ops.map opOf)).1.map opBk).length = (runN alikeB (ops.map opOf)).1.length := List.length_map _
 have e2 : (exits.map (exR (runN alikeB (ops.map opOf)).2)).length = exits.length := List.length_map _
 have HBN := Lib.hid (fun g v (hB : BlockAt v g (blkOf pcs ((runN alikeB (ops.map opOf)).1.map opBk) (exits.map (exR (runN alikeB (ops.map opOf)).2)) last)) => back_a pcs _ _ last hLn g v hB)
 have HSN := Lib.hid (fun A0 A1 A2 D0 D1 D2 c0 c1 c2 d0 d1 d2 v => rsame_n A0 A1 A2 D0 D1 D2 c0 c1 c2 d0 d1 d2 last pcs _ _ pcs.length (runN alikeB (ops.map opOf)).1.length exits.length rfl e1 e2 hLn v)
 rw [e1, e2] at HBN
 have hlnlo : (runN alikeB (ops.map opOf)).1.length ≤ ops.length := by have := (runN_len alikeB (ops.map opOf)).2.1; rw [List.length_map] at this; exact this
 have hlo6 : ops.length ≤ 600 := (light_maps pcs ops exits hL).2.1
 have HAP := Lib.hid (show ∀ (i k : Nat) (x y : S59), ((runN alikeB (ops.map opOf)).1.map opBk)[i]? = some x → ((runN alikeB (ops.map opOf)).1.map opBk)[k]? = some y → k < i → x.f0 ≤ 3 → alikeB (opOf y) (opOf x) = false from fun i k x y hi hy hk hc => hap i k (opOf x) (opOf y) (by show (List.map opOf _)[i]? = _; rw [List.getElem?_map, hi]; rfl) (by show (List.map opOf _)[k]? = _; rw [List.getElem?_map, hy]; rfl) hk hc)
 rw [hL] at HLI
 rw [hK] at HRC
 clear h hL hK m1 m2 m3 m4 sB hLn hnb hK2 hag hap n1 sN e2
 generalize (runN alikeB (ops.map opOf)).1.map opBk = L at *
 generalize exits.map (exR (runN alikeB (ops.map opOf)).2) = E at *
 generalize (runN alikeB (ops.map opOf)).1.length = ln at *
 generalize pcs.length = lp at *
 generalize ops.length = lo at *
 generalize exits.length = le at *
 generalize blkOf pcs ops exits last = B at *
 generalize blkOf pcs L E last = Bn at *
 go_enter Try.func8, Try.ntmps8
 go_wp2_with fail
 refine (HLI.out _ (bal (Below.refl _ _) _)).mono ?_
 rintro e w1 ⟨rfl, hb1⟩
 have d0 := cellk hb1 (a := ⟨w.heap.size, 0, none⟩) (v := .slice A0 lp c0) (by simp [go_sem])
 have d1 := cellk hb1 (a := ⟨w.heap.size, 1, none⟩) (v := .slice A1 lo c1) (by simp [go_sem])
 have d2 := cellk hb1 (a := ⟨w.heap.size, 2, none⟩) (v := .slice A2 le c2) (by simp [go_sem])
 have d3 := cellk hb1 (a := ⟨w.heap.size, 3, none⟩) (v := .int .i64 last) (by simp [go_sem])
 have HB1 := Lib.hid (bthen (bal (Below.refl w.heap.size w) _) hb1)
 clear hb1 HLI
 go_wp2_with fail
 refine (HRC.out _ HB1.out).mono ?_
 rintro e w2 ⟨rfl, hb2⟩
 have HB2 := Lib.hid (bthen HB1.out hb2)
 replace d0 := cellk hb2 d0
 replace d1 := cellk hb2 d1
 replace d2 := cellk hb2 d2
 replace d3 := cellk hb2 d3
 clear hb2 HB1 HRC
 go_wp2_with fail
 refine (HOW.out _ HB2.out).mono ?_
 rintro e w3 ⟨rfl, hB3, hb3⟩
 have HX3 := Lib.hid hB3
 have HB3 := Lib.hid (bthen HB2.out hb3)
 replace d1 := cellk hb3 d1
 clear hb3 hB3 HB2 HOW d0 d2 d3
 go_wp2_with fail
 refine (HDY.out _ _ HX3.out).mono ?_
 rintro e w4 ⟨⟨gc, rfl, hBn⟩, hb4⟩
 have HB4 := Lib.hid (bthen HB3.out hb4)
 have HN4 := Lib.hid hBn
 replace d1 := cellk hb4 d1
 clear hb4 hBn HB3 HX3 HDY
 go_wp2_with fail
 refine (HDZ.out _ _ HN4.out).mono ?_
 rintro e w5 ⟨⟨gd, rfl, hBd⟩, hb5⟩
 have HB5 := Lib.hid (bthen HB4.out hb5)
 have HN5 := Lib.hid (HN4.out.below hb5)
 have HD5 := Lib.hid hBd
 replace d1 := cellk hb5 d1
 clear hb5 hBd HB4 HN4 HDZ
 go_wp2_with fail
 refine (HBN.out _ _ HN5.out).mono ?_
 rintro e w6 ⟨⟨v6, rfl, Z0, Z1, Z2, z0, z1, z2, rfl, HK6⟩, hb6⟩
 have HB6 := Lib.hid (bthen HB5.out hb6)
 have HD6 := Lib.hid (HD5.out.below hb6)
 replace d1 := cellk hb6 d1
 clear hb6 HB5 HN5 HD5
 have hw6 : w.heap.size < w6.heap.size := World.block_lt_of_cell? w6 ⟨w.heap.size, 1, none⟩ d1
 have HAG := Lib.hid (show AgS (w6.alloc (.cells #[.slice Z0 lp z0, .slice Z1 ln z1, .slice Z2 le z2, .int .i64 last] 26)) w.heap.size w6.heap.size gd Z0 Z1 Z2 z0 z1 z2 lp ln le last pcs L E A1 lo c1 Bn from ⟨by simp [go_sem], by simp [go_sem], by simp [go_sem], by simp [go_sem], cellk (bal (Below.refl _ _) _) d1, ⟨Kd.qx HK6.out.1 _, Kd.qx HK6.out.2.1 _, Kd.qx HK6.out.2.2 _⟩, HD6.out.below (bal (Below.refl _ _) _)⟩)
 have HBG := Lib.hid (bal HB6.out (.cells #[.slice Z0 lp z0, .slice Z1 ln z1, .slice Z2 le z2, .int .i64 last] 26))
 clear HK6 HD6 HB6 d1
 have HE1 := Lib.hid e1
 clear e1
 go_wp2
 go_loopw [8] (fun i wr => ∃ n : Nat, n ≤ ln ∧ i = .int .i64 n ∧ Hid (AgS wr w.heap.size w6.heap.size gd Z0 Z1 Z2 z0 z1 z2 lp ln le last pcs L E A1 lo c1 Bn) ∧ Hid (Below w.heap.size w wr)) (fun i _ => ln - (intOf i).toNat)
 case atStart => exact ⟨0, Nat.zero_le _, rfl, HAG, HBG⟩
 case round =>
  clear HAG HBG
  obtain ⟨n, hn, rfl, HG, HB⟩ := hrel
  have y1 := HG.out.y1
  by_cases hlt : n < ln
  ·obtain ⟨wm, hwm⟩ : ∃ wm, wm = wr := ⟨_, rfl⟩
   subst hwm
   go_wp2
   go_loopw [9] (fun k wr => ∃ m : Nat, m ≤ n ∧ k = .int .i64 m ∧ Hid (AgS wr w.heap.size w6.heap.size gd Z0 Z1 Z2 z0 z1 z2 lp ln le last pcs L E A1 lo c1 Bn) ∧ Hid (Below w.heap.size w wr)) (fun k _ => n - (intOf k).toNat)
   case atStart => exact ⟨0, Nat.zero_le _, rfl, HG, HB⟩
   case round =>
    clear HG HB y1
    obtain ⟨m, hm, rfl, HG, HB⟩ := hrel
    have y1 := HG.out.y1
    by_cases hlt2 : m < n
    ·obtain ⟨ad, rfl, d0, d1, d2, d3, d4, d5⟩ := at_T59 HG.out.k.2.1 (n : Int) (by omega) (by omega)
     obtain ⟨ad', had, x0, x1, x2, x3, x4, x5⟩ := at_T59 HG.out.k.2.1 (m : Int) (by omega) (by omega)
     cases had
     have hl1 := HE1.out
     have hxn : L[n]? = some (ql L (n : Int)) := by
      have q : n < L.length := by omega
      simp [ql, q]
     have hxm : L[m]? = some (ql L (m : Int)) := by
      have q : m < L.length := by omega
      simp [ql, q]
     have hA := HAP.out n m _ _ hxn hxm hlt2
     simp only [Int.toNat_natCast] at d0 d1 d2 d3 d4 d5 x0 x1 x2 x3 x4 x5
     clear hxn hxm hl1
     generalize ql L (n : Int) = x at *
     generalize ql L (m : Int) = y at *
     have HQ := Lib.hid (fun v => ralike_c y x v)
     by_cases hc : x.f0 ≤ 3
     ·have tc : decide (x.f0 ≤ 3) = true := decide_eq_true hc
      have hA' := hA hc
      rw [hA'] at HQ
      clear hA hA' hc
      go_wp2
      refine qG (by kernel_rfl) (by kernel_rfl) ?_
      intro T _ F hF hS
      have e0 := fcell hF y1
      have p0 := fun s => ((hF s).cell (World.block_lt_of_cell? _ _ d0)).trans d0
      have p1 := fun s => ((hF s).cell (World.block_lt_of_cell? _ _ d1)).trans d1
      have p2 := fun s => ((hF s).cell (World.block_lt_of_cell? _ _ d2)).trans d2
      have p3 := fun s => ((hF s).cell (World.block_lt_of_cell? _ _ d3)).trans d3
      have p4 := fun s => ((hF s).cell (World.block_lt_of_cell? _ _ d4)).trans d4
      have p5 := fun s => ((hF s).cell (World.block_lt_of_cell? _ _ d5)).trans d5
      have q0 := fun s => ((hF s).cell (World.block_lt_of_cell? _ _ x0)).trans x0
      have q1 := fun s => ((hF s).cell (World.block_lt_of_cell? _ _ x1)).trans x1
      have q2 := fun s => ((hF s).cell (World.block_lt_of_cell? _ _ x2)).trans x2
      have q3 := fun s => ((hF s).cell (World.block_lt_of_cell? _ _ x3)).trans x3
      have q4 := fun s => ((hF s).cell (World.block_lt_of_cell? _ _ x4)).trans x4
      have q5 := fun s => ((hF s).cell (World.block_lt_of_cell? _ _ x5)).trans x5
      have HRF : ∀ s, Hid (Below w.heap.size w (F s)) := fun s => Lib.hid (bthen HB.out (hF s))
      have HGF : ∀ s, Hid (AgS (F s) w.heap.size w6.heap.size gd Z0 (some ad) Z2 z0 z1 z2 lp ln le last pcs L E A1 lo c1 Bn) := fun s => Lib.hid (HG.out.below (hF s))
      repeat (go_big_quiet_step (first | (go_at_call 30; exact qbelow hS (HQ.out _)) | fail))
      refine wpQuiet_nil ?_
      intro w2 hw2
      obtain ⟨s2, rfl⟩ := hw2
      have HB2 := Lib.hid (HRF s2).out
      have HG2 := Lib.hid (HGF s2).out
      clear p0 p1 p2 p3 p4 p5 q0 q1 q2 q3 q4 q5 e0
      go_wp2
      go_roundw
      case rel => exact ⟨m + 1, by omega, by go_num, HG2, HB2⟩
      case measure => simp [intOf]; omega
     ·have tc : decide (x.f0 ≤ 3) = false := decide_eq_false hc
      clear hA hc
      go_wp2
      refine qG (by kernel_rfl) (by kernel_rfl) ?_
      intro T _ F hF hS
      have e0 := fcell hF y1
      have p0 := fun s => ((hF s).cell (World.block_lt_of_cell? _ _ d0)).trans d0
      have p1 := fun s => ((hF s).cell (World.block_lt_of_cell? _ _ d1)).trans d1
      have p2 := fun s => ((hF s).cell (World.block_lt_of_cell? _ _ d2)).trans d2
      have p3 := fun s => ((hF s).cell (World.block_lt_of_cell? _ _ d3)).trans d3
      have p4 := fun s => ((hF s).cell (World.block_lt_of_cell? _ _ d4)).trans d4
      have p5 := fun s => ((hF s).cell (World.block_lt_of_cell? _ _ d5)).trans d5
      have q0 := fun s => ((hF s).cell (World.block_lt_of_cell? _ _ x0)).trans x0
      have q1 := fun s => ((hF s).cell (World.block_lt_of_cell? _ _ x1)).trans x1
      have q2 := fun s => ((hF s).cell (World.block_lt_of_cell? _ _ x2)).trans x2
      have q3 := fun s => ((hF s).cell (World.block_lt_of_cell? _ _ x3)).trans x3
      have q4 := fun s => ((hF s).cell (World.block_lt_of_cell? _ _ x4)).trans x4
      have q5 := fun s => ((hF s).cell (World.block_lt_of_cell? _ _ x5)).trans x5
      have HRF : ∀ s, Hid (Below w.heap.size w (F s)) := fun s => Lib.hid (bthen HB.out (hF s))
      have HGF : ∀ s, Hid (AgS (F s) w.heap.size w6.heap.size gd Z0 (some ad) Z2 z0 z1 z2 lp ln le last pcs L E A1 lo c1 Bn) := fun s => Lib.hid (HG.out.below (hF s))
      repeat (go_big_quiet_step (first | (go_at_call 30; exact qbelow hS (HQ.out _)) | fail))
      refine wpQuiet_nil ?_
      intro w2 hw2
      obtain ⟨s2, rfl⟩ := hw2
      have HB2 := Lib.hid (HRF s2).out
      have HG2 := Lib.hid (HGF s2).out
      clear p0 p1 p2 p3 p4 p5 q0 q1 q2 q3 q4 q5 e0
      go_wp2
      go_roundw
      case rel => exact ⟨m + 1, by omega, by go_num, HG2, HB2⟩
      case measure => simp [intOf]; omega
    ·have hme : m = n := by omega
     subst hme
     go_wp2
     go_roundw
     case rel => exact ⟨m + 1, by omega, by go_num, HG, HB⟩
     case measure => simp [intOf]; omega
  ·have hne : n = ln := by omega
   subst hne
   have hle : decide ((n : Int) ≤ (lo : Int)) = true := decide_eq_true (by omega)
   have y0 := HG.out.y0
   have y2 := HG.out.y2
   have y3 := HG.out.y3
   have a1 := HG.out.a1
   have HKK := Lib.hid HG.out.k
   have HGD := Lib.hid HG.out.g
   clear HG
   go_wp2
   refine wp_region_fc (by kernel_rfl) (by kernel_rfl) [.is (.pointer (some ⟨w6.heap.size, 1, none⟩)), .is (.slice Z1 n z1), .is (.int .i64 n), .is (.pointer (some ⟨w.heap.size, 1, none⟩)), .is (.slice A1 lo c1), .is (.int .i64 lo), .is (.bool true), .is (.bool true), .is (.pointer (some ⟨gd, 0, none⟩)), .any (AggB lp n le pcs L E last) AggB.keep, .is (.agg #[.slice Z0 lp z0, .slice Z1 n z1, .slice Z2 le z2, .int .i64 last]), .is (.bool true), .is (.bool true), .is (.bool true), .is (.bool true), .is (.bool true), .is (.bool true)] ?_ ?_
   ·intro vs w' hb'
    have u0 := cellk hb' y0
    have u1 := cellk hb' y1
    have u2 := cellk hb' y2
    have u3 := cellk hb' y3
    have u4 := cellk hb' a1
    have HBW := Lib.hid (bthen HB.out hb')
    have HD := Lib.hid (HGD.out.below hb')
    have HK2 := Lib.hid (show (Kd.int .u32).C w' Z0 lp pcs ∧ k59.C w' Z1 n L ∧ k64.C w' Z2 le E from ⟨Kd.qp HKK.out.1 hb', Kd.qp HKK.out.2.1 hb', Kd.qp HKK.out.2.2 hb'⟩)
    clear y0 y1 y2 y3 a1 HKK HGD HB hb'
    simp only [factSteps, putAll, Act.put, List.setIfInBounds_toArray, List.set_cons_zero, List.set_cons_succ, Nat.zero_add, Nat.reduceAdd]
    refine ⟨?_, ?_, ?_, ?_, ?_, ?_, ?_, ?_, ?_, ?_, ?_, ?_, ?_, ?_, ?_, ?_, ?_, trivial⟩
    all_goals
     intro he
     simp only [factEdges, Region.binds, List.getD_cons_zero, List.getD_cons_succ, Fc.holds, true_implies, and_true] at he
     try simp only [and_self] at he
     first | (obtain ⟨⟨D0, D1, D2, e0, e1, e2, hv, hk⟩, h10, -, hg7⟩ : AggB lp n le pcs L E last (vs 9) w' ∧ vs 10 = _ ∧ _ ∧ vs 7 = _ := he; simp only [hv, h10, hg7]) | (simp only [he]) | skip
     go_wp2_with (first | (go_at_call 17; with_reducible refine Calls.mono (HBN.out _ _ HD.out) ?_; rintro e w5 ⟨⟨v5, rfl, hv5⟩, hb5⟩) | (go_at_call 23; with_reducible refine Calls.mono (HSN.out _ _ _ _ _ _ _ _ _ _ _ _ _ hk HK2) ?_; rintro e w5 ⟨rfl, hb5⟩) | (go_at_call 27; with_reducible refine Calls.mono (HAW.out _) ?_; rintro e w5 ⟨rfl, hb5⟩))
     first
      | exact ⟨rfl, Below.refl _ _⟩
      | exact ⟨(show AggB lp n le pcs L E last _ _ from hv5), hb5⟩
      | exact (show AggB lp n le pcs L E last _ _ from hv5)
      | exact ⟨rfl, hb5⟩
      | exact hb5
      | exact Below.refl _ _
      | exact rfl
      | (trace_state; skip)
   ·intro vs w5 hb5 hall
    simp only [factSteps, List.getD_cons_zero, List.getD_cons_succ, Fc.holds, and_true] at hall
    obtain ⟨-, -, -, -, -, -, -, -, -, -, -, -, -, -, -, -, e16⟩ := hall
    simp only [putAll, Act.put, List.setIfInBounds_toArray, List.set_cons_zero, List.set_cons_succ, Nat.zero_add, Nat.reduceAdd, e16]
    have HB5 := Lib.hid (bthen HB.out hb5)
    clear hb5
    go_wp2
    go_ret
    exact ⟨rfl, HB5.out⟩
end Go.Proofs.Ytlnbghhhifnbdaa
