/- Contract of number.Do: a new block, its values shared, or what is wrong. Conditions: the block reads as the given one, its lists have at most a million entries. -/
import Derived.Test.YthjgakoofmmloaaZYCz
import Derived.Test.YthjgakoofmmloaaZPNumberDoesx11
import Derived.Test.YthjgakoofmmloaaZPNumberDoesx13
import Derived.Test.YthjgakoofmmloaaZYTz
import Derived.WalkMore
import Derived.Deep.RegionLaw
import Derived.Deep.CutBlock
import Derived.Deep.DeepCutAuto
import Derived.Deep.CutRange
namespace Go.Proofs.Ythjgakoofmmloaa
open Go.RowKit Go.Proofs.YthjgakoofmmloaaW.PrintWords Go.Proofs.YthjgakoofmmloaaW.PrintMore Go.Proofs.Ythjgakoofmmloaa.PNumberDoes
set_option linter.unusedVariables false
set_option linter.unusedSimpArgs false

def nmO (tv : List Int) (o : S67) : S67 :=
 if o.f0 = 3 ∨ o.f0 = 5 ∨ o.f0 = 6 then ⟨o.f0, rd tv o.f1, rd tv o.f2, o.f3, o.f4, o.f5⟩ else if o.f0 = 4 then ⟨o.f0, rd tv o.f1, o.f2, o.f3, o.f4, o.f5⟩ else o
theorem nmO_code (tv : List Int) (o : S67) : (nmO tv o).f0 = o.f0 := by
 unfold nmO
 split
 ·rfl
 ·split <;> rfl
def turnsB (op : Int) : Bool := decide (op = 28) || (decide (op = 36) || (decide (op = 33) || (decide (op = 37) || (decide (op = 50) || (decide (op = 51) || decide (op = 53))))))
def plI (m : Int) : Int := if m = 19 then 28 else if m = 20 then 31 else if m = 21 then 32 else if m = 22 then 33 else if m = 23 then 36 else if m = 24 then 37 else if m = 25 then 30 else if m = 26 then 34 else if m = 27 then 35 else m
def alikeB (a b : S67) : Bool :=
 if a.f0 ≠ b.f0 then false else if a.f0 = 1 ∨ a.f0 = 2 then a.f3 == b.f3 else if a.f0 = 4 then (a.f3 == b.f3) && (a.f1 == b.f1)
 else if a.f0 = 3 then (plI (wrap64 a.f3) == plI (wrap64 b.f3)) && (((a.f1 == b.f1) && (a.f2 == b.f2)) || (turnsB (plI (wrap64 a.f3)) && ((a.f1 == b.f2) && (a.f2 == b.f1)))) else false
section
variable (al : S67 → S67 → Bool)
def fndR (o : S67) (l : List S67) : Nat × Int := l.foldl (fun p x => (p.1 + 1, if x.f0 = 5 ∧ o.f0 = 4 then -1 else if p.2 < 0 ∧ al x o = true then (p.1 : Int) else p.2)) (0, -1)
theorem fndR_add (o x : S67) (l : List S67) : fndR al o (l ++ [x]) = ((fndR al o l).1 + 1, if x.f0 = 5 ∧ o.f0 = 4 then -1 else if (fndR al o l).2 < 0 ∧ al x o = true then ((fndR al o l).1 : Int) else (fndR al o l).2) := by
 unfold fndR
 rw [List.foldl_append]
 rfl
theorem rev_ind {α : Type} {p : List α → Prop} (h0 : p []) (h1 : ∀ l x, p l → p (l ++ [x])) (l : List α) : p l := by
 have h : ∀ n, ∀ l : List α, l.length = n → p l := by
  intro n
  induction n with
  | zero => intro l hl; rw [List.length_eq_zero_iff.1 hl]; exact h0
  | succ n ih =>
   intro l hl
   have hne : l ≠ [] := fun e => by rw [e] at hl; simp at hl
   rw [← List.dropLast_concat_getLast hne]
   exact h1 _ _ (ih _ (by rw [List.length_dropLast]; omega))
 exact h _ l rfl
theorem fndR_len (o : S67) (l : List S67) : (fndR al o l).1 = l.length :=
 rev_ind (p := fun l => (fndR al o l).1 = l.length) rfl (fun l x h => by rw [fndR_add, h]; simp) l
def stepN (s : List S67 × List Int) (o : S67) : List S67 × List Int :=
 if 0 ≤ (fndR al (nmO s.2 o) s.1).2 then (s.1, s.2 ++ [(fndR al (nmO s.2 o) s.1).2]) else (s.1 ++ [nmO s.2 o], s.2 ++ [(s.1.length : Int)])
end
def exN (tv : List Int) (x : S73) : S73 := ⟨x.f0, x.f1, if x.f2 = -1 then -1 else rd tv x.f2, x.f3, x.f4.map (fun v => ⟨v.f0, rd tv v.f1⟩)⟩
structure RightN (B : BlkV) : Prop where
 code : ∀ (k : Nat) (o : S67), B.ops[k]? = some o → 1 ≤ o.f0 ∧ o.f0 ≤ 6
 ops : ∀ (k : Nat) (o : S67), B.ops[k]? = some o → (o.f0 = 3 ∨ o.f0 = 4 ∨ o.f0 = 5 ∨ o.f0 = 6 → 0 ≤ o.f1 ∧ o.f1 < (k : Int)) ∧ (o.f0 = 3 ∨ o.f0 = 5 ∨ o.f0 = 6 → 0 ≤ o.f2 ∧ o.f2 < (k : Int))
 tv : ∀ (n : Nat) (x : S73), B.exits[n]? = some x → x.f2 = -1 ∨ (0 ≤ x.f2 ∧ x.f2 < (B.ops.length : Int))
 map : ∀ (n : Nat) (x : S73), B.exits[n]? = some x → ∀ v ∈ x.f4, 0 ≤ v.f1 ∧ v.f1 < (B.ops.length : Int)
 lo : B.ops.length ≤ 512
 le : B.exits.length ≤ 128
 lp : B.pcs.length ≤ 32
theorem valB_lt {B : BlkV} {n k : Int} (h : valB B n k = true) : 0 ≤ n ∧ n < k ∧ n < (B.ops.length : Int) := by
 unfold valB at h
 simp only [Bool.and_eq_true, decide_eq_true_eq] at h
 exact ⟨h.1, h.2.1, h.2.2.1⟩
theorem rightN_of {B : BlkV} (h : checkB B = 0) : RightN B := by
 unfold checkB at h
 split at h
 ·exact absurd h (by decide)
 rename_i hsz
 split at h
 case isFalse => exact absurd h (by decide)
 rename_i hr
 unfold rightB at hr
 simp only [Bool.and_eq_true, List.all_eq_true, List.mem_range] at hr
 obtain ⟨ho, hl, -⟩ := hr
 have hx : ∀ (n : Nat) (x : S73), B.exits[n]? = some x → exitB B (n : Int) (B.ops.length : Int) = true ∧ qJ B.exits (n : Int) = x := by
  intro n x hx
  obtain ⟨hn, he⟩ := List.getElem?_eq_some_iff.1 hx
  have := hl n hn
  unfold leavesB at this
  rw [Bool.and_eq_true] at this
  exact ⟨this.1, by simp [qJ, hn, he]⟩
 refine ⟨fun k o hk => ?_, fun k o hk => ?_, fun n x hn => ?_, fun n x hn v hv => ?_, by omega, by omega, by omega⟩
 ·obtain ⟨hkl, he⟩ := List.getElem?_eq_some_iff.1 hk
  have hop := ho k hkl
  have hq : qz B.ops (k : Int) = o := by simp [qz, hkl, he]
  unfold opB at hop
  rw [hq, Bool.and_eq_true] at hop
  have hk := hop.1
  unfold kindB at hk
  by_cases c1 : o.f0 = 1
  ·omega
  by_cases c2 : o.f0 = 2
  ·omega
  by_cases c3 : o.f0 = 3
  ·omega
  by_cases c4 : o.f0 = 4
  ·omega
  by_cases c5 : o.f0 = 5
  ·omega
  by_cases c6 : o.f0 = 6
  ·omega
  rw [if_neg c1, if_neg c2, if_neg c3, if_neg c4, if_neg c5, if_neg c6] at hk
  cases hk
 ·obtain ⟨hkl, he⟩ := List.getElem?_eq_some_iff.1 hk
  have hop := ho k hkl
  have hq : qz B.ops (k : Int) = o := by simp [qz, hkl, he]
  unfold opB at hop
  rw [hq] at hop
  simp only [Bool.and_eq_true] at hop
  have hu := hop.2.2.1
  rw [List.all_eq_true] at hu
  constructor
  ·intro hc
   have := hu o.f1 (by unfold usesL; split <;> (first | (simp; done) | (rename_i hn; rw [if_pos (by omega)]; simp)))
   have := valB_lt this
   exact ⟨this.1, this.2.1⟩
  ·intro hc
   have := hu o.f2 (by unfold usesL; rw [if_pos hc]; simp)
   have := valB_lt this
   exact ⟨this.1, this.2.1⟩
 ·obtain ⟨hb, hq⟩ := hx n x hn
  unfold exitB at hb
  rw [hq] at hb
  simp only [Bool.and_eq_true, Bool.or_eq_true, decide_eq_true_eq] at hb
  rcases hb.2.2.1 with h | h
  ·exact .inl h
  ·have := valB_lt h
   exact .inr ⟨this.1, this.2.1⟩
 ·obtain ⟨hb, hq⟩ := hx n x hn
  unfold exitB at hb
  rw [hq] at hb
  simp only [Bool.and_eq_true, Bool.not_eq_true'] at hb
  have h4 := hb.2.2.2
  rw [List.any_eq_false] at h4
  have := h4 v hv
  unfold badB at this
  have hv : valB B v.f1 (B.ops.length : Int) = true := by simpa using this
  have := valB_lt hv
  exact ⟨this.1, this.2.1⟩
end Go.Proofs.Ythjgakoofmmloaa

namespace Go.Proofs.Ythjgakoofmmloaa
open Go.RowKit Go.Proofs.YthjgakoofmmloaaW.PrintWords Go.Proofs.YthjgakoofmmloaaW.PrintLast Go.Proofs.YthjgakoofmmloaaW.PrintMore Go.Proofs.Ythjgakoofmmloaa.PNumberDoes
set_option linter.unusedVariables false
set_option linter.unusedSimpArgs false

end Go.Proofs.Ythjgakoofmmloaa

namespace Go.Proofs.Ythjgakoofmmloaa
open Go.RowKit Go.Proofs.YthjgakoofmmloaaW.PrintWords Go.Proofs.YthjgakoofmmloaaW.PrintLast Go.Proofs.YthjgakoofmmloaaW.PrintMore Go.Proofs.Ythjgakoofmmloaa.PNumberDoes
set_option linter.unusedVariables false
set_option linter.unusedSimpArgs false

end Go.Proofs.Ythjgakoofmmloaa

namespace Go.Proofs.Ythjgakoofmmloaa
open Go.RowKit Go.Proofs.YthjgakoofmmloaaW.PrintWords Go.Proofs.YthjgakoofmmloaaW.PrintLast Go.Proofs.YthjgakoofmmloaaW.PrintMore Go.Proofs.Ythjgakoofmmloaa.PNumberDoes
set_option linter.unusedVariables false
set_option linter.unusedSimpArgs false

structure ShC (N : Nat) (wr : World) (gs gc : Nat) (last : Int) (v0 v1 v2 vt : Value) (st : Int) : Prop where
 bs : wr.heap[gs]? = some (.cells #[.pointer (some ⟨gc, 0, none⟩), vt, .int .i64 st] 104 (0, 0))
 bc : wr.heap[gc]? = some (.cells #[v0, v1, v2, .int .i64 last] 76 (0, 0))
 ns : N ≤ gs
 nc : N ≤ gc
section
variable {N : Nat} {wr w1 : World} {gs gc : Nat} {last : Int} {v0 v1 v2 vt u : Value} {st : Int}
theorem ShC.s0 (h : ShC N wr gs gc last v0 v1 v2 vt st) : wr.cell? ⟨gs, 0, none⟩ = some (.pointer (some ⟨gc, 0, none⟩)) := by rw [qb h.bs]; rfl
theorem ShC.s1 (h : ShC N wr gs gc last v0 v1 v2 vt st) : wr.cell? ⟨gs, 1, none⟩ = some vt := by rw [qb h.bs]; rfl
theorem ShC.s2 (h : ShC N wr gs gc last v0 v1 v2 vt st) : wr.cell? ⟨gs, 2, none⟩ = some (.int .i64 st) := by rw [qb h.bs]; rfl
theorem ShC.c1 (h : ShC N wr gs gc last v0 v1 v2 vt st) : wr.cell? ⟨gc, 1, none⟩ = some v1 := by rw [qb h.bc]; rfl
theorem ShC.c2 (h : ShC N wr gs gc last v0 v1 v2 vt st) : wr.cell? ⟨gc, 2, none⟩ = some v2 := by rw [qb h.bc]; rfl
theorem ShC.fs (h : ShC N wr gs gc last v0 v1 v2 vt st) (i : Nat) : wr.frozen? ⟨gs, i, none⟩ = false := qa h.bs i
theorem ShC.fc (h : ShC N wr gs gc last v0 v1 v2 vt st) (i : Nat) : wr.frozen? ⟨gc, i, none⟩ = false := qa h.bc i
theorem ShC.lts (h : ShC N wr gs gc last v0 v1 v2 vt st) : gs < wr.heap.size := qG h.bs
theorem ShC.ltc (h : ShC N wr gs gc last v0 v1 v2 vt st) : gc < wr.heap.size := qG h.bc
theorem ShC.ne (h : ShC N wr gs gc last v0 v1 v2 vt st) : gs ≠ gc := blk_ne h.bs h.bc (by decide)
theorem ShC.below (h : ShC N wr gs gc last v0 v1 v2 vt st) (hb : Below wr.heap.size wr w1) : ShC N w1 gs gc last v0 v1 v2 vt st := ⟨qo h.bs hb, qo h.bc hb, h.ns, h.nc⟩
theorem ShC.row {α : Type} {d : Kd α} {e b : Nat} {ok : Nat → Prop} {xs : List α} (h : ShC N wr gs gc last v0 v1 v2 vt st) (hr : d.R e wr b ok u xs) (h1 : e ≠ 104) (h2 : e ≠ 76) : ∀ k, u.ownBlock = some k → gs ≠ k ∧ gc ≠ k := by
 intro k hk
 have b : some gs ≠ u.ownBlock := Kd.R_ne hr h.bs h1
 have c : some gc ≠ u.ownBlock := Kd.R_ne hr h.bc h2
 rw [hk] at b c
 exact ⟨fun e => b (by rw [e]), fun e => c (by rw [e])⟩
theorem ShC.grown {row : Option Nat} (h : ShC N wr gs gc last v0 v1 v2 vt st) (hg : wr.grownBy w1 row) (hr : ∀ k, row = some k → gs ≠ k ∧ gc ≠ k) : ShC N w1 gs gc last v0 v1 v2 vt st :=
 ⟨qM h.bs hg (fun e => (hr _ e.symm).1 rfl), qM h.bc hg (fun e => (hr _ e.symm).2 rfl), h.ns, h.nc⟩
theorem ShC.setL (h : ShC N wr gs gc last v0 v1 v2 vt st) (u : Value) : ShC N (wr.setCell ⟨gc, 1, none⟩ u) gs gc last v0 u v2 vt st :=
 ⟨qp h.bs h.ne u, qC h.bc 1 u, h.ns, h.nc⟩
theorem ShC.setT (h : ShC N wr gs gc last v0 v1 v2 vt st) (u : Value) : ShC N (wr.setCell ⟨gs, 1, none⟩ u) gs gc last v0 v1 v2 u st :=
 ⟨qC h.bs 1 u, qp h.bc h.ne.symm u, h.ns, h.nc⟩
end
theorem ExRow.keep {N : Nat} {w w1 : World} {G : Nat → Nat} {v : Value} {xs : List S73} (s : ExRow N w G v xs) (hk : ∀ (k : Nat) (cur : Array Value) (t : Nat), (t = 73 ∨ t = 70) → w.heap[k]? = some (.cells cur t (0, 0)) → w1.heap[k]? = w.heap[k]?) : ExRow N w1 G v xs := by
 obtain ⟨A, c, hv, hl, h⟩ := s
 refine ⟨A, c, hv, hl, fun hp => ?_⟩
 obtain ⟨g, ha, he⟩ := h hp
 exact ⟨g, ha, he.keep hk⟩
structure ShR (N : Nat) (B : BlkV) (wr : World) (v0 v2 : Value) (G : Nat → Nat) : Prop where
 p : PartP N B v0 wr
 x : ExRow N wr G v2 B.exits
section
variable {N : Nat} {B : BlkV} {wr w1 : World} {v0 v2 : Value} {G : Nat → Nat}
theorem ShR.below (h : ShR N B wr v0 v2 G) (hb : Below wr.heap.size wr w1) : ShR N B w1 v0 v2 G := ⟨Kd.qO h.p hb, h.x.keep fun k cur t _ hc => hb.block k (qG hc)⟩
theorem ShR.over {α : Type} {d : Kd α} {e : Nat} {b : Nat} {ok : Nat → Prop} {u : Value} {xs : List α} (h : ShR N B wr v0 v2 G) (hr : d.R e wr b ok u xs) (h0 : ∀ q, q ∈ 27 :: (Kd.int .u32).E → q ≠ e) (h1 : e ≠ 73) (h2 : e ≠ 70) (hg : wr.grownBy w1 u.ownBlock) : ShR N B w1 v0 v2 G := by
 refine ⟨Kd.R_over' h.p (Kd.R_typed hr) h0 hg, h.x.keep fun k cur t ht hc => hg.block k (qG hc) fun he => ?_⟩
 obtain ⟨cur', hc'⟩ := Kd.R_typed hr k he.symm
 rcases ht with rfl | rfl
 ·exact blk_ne hc' hc h1 rfl
 ·exact blk_ne hc' hc h2 rfl
theorem ShR.set {g t : Nat} {cells : Array Value} (h : ShR N B wr v0 v2 G) (hb : wr.heap[g]? = some (.cells cells t (0, 0))) (h0 : ∀ q, q ∈ 27 :: (Kd.int .u32).E → q ≠ t) (h1 : t ≠ 73) (h2 : t ≠ 70) (j : Nat) (u : Value) : ShR N B (wr.setCell ⟨g, j, none⟩ u) v0 v2 G := by
 refine ⟨Kd.R_set h.p hb h0 j u, h.x.keep fun k cur t' ht hc => ?_⟩
 refine Below.heap_setCell wr ⟨g, j, none⟩ u k fun e => ?_
 have e' : k = g := e
 subst e'
 rcases ht with rfl | rfl
 ·exact blk_ne hb hc h1 rfl
 ·exact blk_ne hb hc h2 rfl
end
structure ShS (N : Nat) (B : BlkV) (wr : World) (gs gc : Nat) (v0 v2 vt : Value) (G : Nat → Nat) (l : List S67) (tv : List Int) (v1 : Value) (st : Int) : Prop where
 c : ShC N wr gs gc B.last v0 v1 v2 vt st
 r : ShR N B wr v0 v2 G
 l : Kd.R k67 67 wr N (fun _ => True) v1 l
 t : Kd.R (Kd.int .i64) 3 wr N (fun _ => True) vt tv
theorem ShS.below {N : Nat} {B : BlkV} {wr w1 : World} {gs gc : Nat} {v0 v2 vt v1 : Value} {G : Nat → Nat} {l : List S67} {tv : List Int} {st : Int} (h : ShS N B wr gs gc v0 v2 vt G l tv v1 st) (hb : Below wr.heap.size wr w1) : ShS N B w1 gs gc v0 v2 vt G l tv v1 st :=
 ⟨h.c.below hb, h.r.below hb, Kd.qO h.l hb, Kd.qO h.t hb⟩
structure ShM (N : Nat) (B : BlkV) (wr : World) (gs gc : Nat) (v0 v2 vt : Value) (G : Nat → Nat) (l : List S67) (tv : List Int) (v1 v1' : Value) (st : Int) : Prop where
 c : ShC N wr gs gc B.last v0 v1 v2 vt st
 r : ShR N B wr v0 v2 G
 l : Kd.R k67 67 wr N (fun _ => True) v1' l
 t : Kd.R (Kd.int .i64) 3 wr N (fun _ => True) vt tv
section
variable {N : Nat} {B : BlkV} {wr w1 : World} {gs gc : Nat} {v0 v2 vt v1 v1' : Value} {G : Nat → Nat} {l l' : List S67} {tv : List Int} {st : Int}
theorem ShS.over (h : ShS N B wr gs gc v0 v2 vt G l tv v1 st) (hl : Kd.R k67 67 w1 N (fun _ => True) v1' l') (hg : wr.grownBy w1 v1.ownBlock) : ShM N B w1 gs gc v0 v2 vt G l' tv v1 v1' st :=
 ⟨h.c.grown hg (h.c.row h.l (by decide) (by decide)), h.r.over h.l (by decide) (by decide) (by decide) hg, hl, Kd.R_over h.t h.l (by decide) hg⟩
theorem ShM.done (h : ShM N B wr gs gc v0 v2 vt G l tv v1 v1' st) : ShS N B (wr.setCell ⟨gc, 1, none⟩ v1') gs gc v0 v2 vt G l tv v1' st :=
 ⟨h.c.setL v1', h.r.set h.c.bc (by decide) (by decide) (by decide) 1 _, Kd.R_set h.l h.c.bc (by decide) 1 _, Kd.R_set h.t h.c.bc (by decide) 1 _⟩
end
end Go.Proofs.Ythjgakoofmmloaa

namespace Go.Proofs.Ythjgakoofmmloaa
open Go.RowKit Go.Proofs.YthjgakoofmmloaaW.PrintWords Go.Proofs.YthjgakoofmmloaaW.PrintMore Go.Proofs.Ythjgakoofmmloaa.PNumberDoes
set_option linter.unusedVariables false
set_option linter.unusedSimpArgs false

theorem alike_code {a b : S67} (h : alikeB a b = true) : a.f0 = b.f0 := by
 unfold alikeB at h
 by_cases e : a.f0 = b.f0
 ·exact e
 ·rw [if_pos e] at h; cases h
theorem fndR_some (o : S67) (l : List S67) : 0 ≤ (fndR alikeB o l).2 → ∃ x, l[(fndR alikeB o l).2.toNat]? = some x ∧ alikeB x o = true := by
 refine rev_ind (p := fun l => 0 ≤ (fndR alikeB o l).2 → ∃ x, l[(fndR alikeB o l).2.toNat]? = some x ∧ alikeB x o = true) (fun h => absurd h (show ¬ (0 : Int) ≤ -1 by decide)) (fun l x ih h => ?_) l
 rw [fndR_add, fndR_len] at h ⊢
 by_cases h5 : x.f0 = 5 ∧ o.f0 = 4
 ·rw [if_pos h5] at h; exact absurd h (show ¬ (0 : Int) ≤ -1 by decide)
 rw [if_neg h5] at h ⊢
 by_cases hq : (fndR alikeB o l).2 < 0 ∧ alikeB x o = true
 ·rw [if_pos hq]
  exact ⟨x, by simp, hq.2⟩
 ·rw [if_neg hq] at h ⊢
  obtain ⟨y, hy, ha⟩ := ih h
  refine ⟨y, ?_, ha⟩
  rw [List.getElem?_append_left (List.getElem?_eq_some_iff.1 hy).1]
  exact hy
theorem rd_app (tv : List Int) (x n : Int) (h0 : 0 ≤ n) (h1 : n < (tv.length : Int)) : rd (tv ++ [x]) n = rd tv n := by
 unfold rd
 rw [List.getD_eq_getElem?_getD, List.getD_eq_getElem?_getD, List.getElem?_append_left (by omega)]
def namedO (o : S67) (k : Nat) : Prop := (o.f0 = 3 ∨ o.f0 = 4 ∨ o.f0 = 5 ∨ o.f0 = 6 → 0 ≤ o.f1 ∧ o.f1 < (k : Int)) ∧ (o.f0 = 3 ∨ o.f0 = 5 ∨ o.f0 = 6 → 0 ≤ o.f2 ∧ o.f2 < (k : Int))
theorem nmO_app (tv : List Int) (x : Int) (o : S67) (h : namedO o tv.length) : nmO (tv ++ [x]) o = nmO tv o := by
 unfold nmO
 by_cases h3 : o.f0 = 3 ∨ o.f0 = 5 ∨ o.f0 = 6
 ·obtain ⟨a, b⟩ := h.1 (by omega)
  obtain ⟨c, d⟩ := h.2 h3
  rw [if_pos h3, if_pos h3, rd_app tv x _ a b, rd_app tv x _ c d]
 ·rw [if_neg h3, if_neg h3]
  by_cases h4 : o.f0 = 4
  ·obtain ⟨a, b⟩ := h.1 (by omega)
   rw [if_pos h4, if_pos h4, rd_app tv x _ a b]
  ·rw [if_neg h4, if_neg h4]
theorem namedO.mono {o : S67} {k m : Nat} (h : namedO o k) (hk : k ≤ m) : namedO o m := ⟨fun q => by have := h.1 q; omega, fun q => by have := h.2 q; omega⟩
theorem rd_mem {tv : List Int} {n : Int} (h0 : 0 ≤ n) (h1 : n < (tv.length : Int)) : rd tv n ∈ tv := by
 unfold rd
 rw [List.getD_eq_getElem?_getD, List.getElem?_eq_getElem (by omega)]
 exact List.getElem_mem _
theorem rd_last (tv : List Int) (x : Int) : rd (tv ++ [x]) (tv.length : Int) = x := by
 unfold rd
 rw [List.getD_eq_getElem?_getD]
 simp
structure RunI (ops l : List S67) (tv : List Int) : Prop where
 code : ∀ (n : Nat) (o : S67), ops[n]? = some o → ∃ o', l[(rd tv (n : Int)).toNat]? = some o' ∧ o'.f0 = o.f0
 src : ∀ (p : Nat) (o' : S67), l[p]? = some o' → ∃ (k : Nat) (o : S67), ops[k]? = some o ∧ o' = nmO tv o ∧ ∀ n : Int, 0 ≤ n → n < (k : Int) → rd tv n < (p : Int)
 none : ∀ (p : Nat) (o' : S67), l[p]? = some o' → (fndR alikeB o' (l.take p)).2 < 0
theorem RunI.step {ops l : List S67} {tv : List Int} {o : S67} (h : RunI ops l tv) (ht : tv.length = ops.length) (hb : ∀ x ∈ tv, 0 ≤ x ∧ x < (l.length : Int)) (hno : namedO o ops.length) (hnk : ∀ (k : Nat) (x : S67), ops[k]? = some x → namedO x tv.length) :
  RunI (ops ++ [o]) (stepN alikeB (l, tv) o).1 (stepN alikeB (l, tv) o).2 := by
 have hno' : namedO o tv.length := by rw [ht]; exact hno
 have hcn : ∀ (x : Int) (n : Nat) (y : S67), ops[n]? = some y → rd (tv ++ [x]) (n : Int) = rd tv (n : Int) := fun x n y hy => rd_app tv x _ (by omega) (by have := (List.getElem?_eq_some_iff.1 hy).1; omega)
 have hsrc : ∀ (x : Int) (p : Nat) (o' : S67), l[p]? = some o' → ∃ (k : Nat) (y : S67), (ops ++ [o])[k]? = some y ∧ o' = nmO (tv ++ [x]) y ∧ ∀ n : Int, 0 ≤ n → n < (k : Int) → rd (tv ++ [x]) n < (p : Int) := by
  intro x p o' hp
  obtain ⟨k, y, hy, he, hlt⟩ := h.src p o' hp
  have hk := (List.getElem?_eq_some_iff.1 hy).1
  refine ⟨k, y, by rw [List.getElem?_append_left hk]; exact hy, by rw [nmO_app tv x y (hnk k y hy)]; exact he, fun n h0 h1 => ?_⟩
  rw [rd_app tv x n h0 (by omega)]
  exact hlt n h0 h1
 have estep : stepN alikeB (l, tv) o = (if 0 ≤ (fndR alikeB (nmO tv o) l).2 then (l, tv ++ [(fndR alikeB (nmO tv o) l).2]) else (l ++ [nmO tv o], tv ++ [(l.length : Int)])) := rfl
 rw [estep]
 by_cases hf : 0 ≤ (fndR alikeB (nmO tv o) l).2
 ·rw [if_pos hf]
  refine ⟨fun n y hy => ?_, hsrc _, h.none⟩
  by_cases e : n < ops.length
  ·rw [List.getElem?_append_left e] at hy
   show ∃ o', l[(rd (tv ++ [_]) (n : Int)).toNat]? = some o' ∧ _
   rw [hcn _ n y hy]
   exact h.code n y hy
  ·have hn : n = ops.length := by have := (List.getElem?_eq_some_iff.1 hy).1; simp at this; omega
   subst hn
   rw [List.getElem?_append_right (Nat.le_refl _), Nat.sub_self] at hy
   simp at hy
   subst hy
   show ∃ o', l[(rd (tv ++ [_]) (ops.length : Int)).toNat]? = some o' ∧ _
   rw [← ht, rd_last]
   obtain ⟨x, hx, hA⟩ := fndR_some _ _ hf
   exact ⟨x, hx, (alike_code hA).trans (nmO_code tv o)⟩
 ·rw [if_neg hf]
  refine ⟨fun n y hy => ?_, fun p o' hp => ?_, fun p o' hp => ?_⟩
  ·by_cases e : n < ops.length
   ·rw [List.getElem?_append_left e] at hy
    show ∃ o', (l ++ [_])[(rd (tv ++ [_]) (n : Int)).toNat]? = some o' ∧ _
    rw [hcn _ n y hy]
    obtain ⟨x, hx, hc⟩ := h.code n y hy
    exact ⟨x, by rw [List.getElem?_append_left (List.getElem?_eq_some_iff.1 hx).1]; exact hx, hc⟩
   ·have hn : n = ops.length := by have := (List.getElem?_eq_some_iff.1 hy).1; simp at this; omega
    subst hn
    rw [List.getElem?_append_right (Nat.le_refl _), Nat.sub_self] at hy
    simp at hy
    subst hy
    show ∃ o', (l ++ [_])[(rd (tv ++ [_]) (ops.length : Int)).toNat]? = some o' ∧ _
    rw [← ht, rd_last]
    exact ⟨nmO tv o, by simp, nmO_code tv o⟩
  ·by_cases e : p < l.length
   ·replace hp : (l ++ [nmO tv o])[p]? = some o' := hp
    rw [List.getElem?_append_left e] at hp
    exact hsrc _ p o' hp
   ·replace hp : (l ++ [nmO tv o])[p]? = some o' := hp
    have hn : p = l.length := by have := (List.getElem?_eq_some_iff.1 hp).1; simp at this; omega
    subst hn
    rw [List.getElem?_append_right (Nat.le_refl _), Nat.sub_self] at hp
    simp at hp
    subst hp
    refine ⟨ops.length, o, by simp, (nmO_app tv _ o hno').symm, fun n h0 h1 => ?_⟩
    show rd (tv ++ [_]) n < _
    rw [rd_app tv _ n h0 (by omega)]
    exact (hb _ (rd_mem h0 (by omega))).2
  ·by_cases e : p < l.length
   ·replace hp : (l ++ [nmO tv o])[p]? = some o' := hp
    rw [List.getElem?_append_left e] at hp
    show (fndR alikeB o' ((l ++ [_]).take p)).2 < 0
    rw [List.take_append_of_le_length (Nat.le_of_lt e)]
    exact h.none p o' hp
   ·replace hp : (l ++ [nmO tv o])[p]? = some o' := hp
    have hn : p = l.length := by have := (List.getElem?_eq_some_iff.1 hp).1; simp at this; omega
    subst hn
    rw [List.getElem?_append_right (Nat.le_refl _), Nat.sub_self] at hp
    simp at hp
    subst hp
    show (fndR alikeB (nmO tv o) ((l ++ [_]).take l.length)).2 < 0
    rw [List.take_append_of_le_length (Nat.le_refl _), List.take_length]
    omega
end Go.Proofs.Ythjgakoofmmloaa

namespace Go.Proofs.Ythjgakoofmmloaa
open Go.RowKit Go.Proofs.YthjgakoofmmloaaW.PrintWords Go.Proofs.YthjgakoofmmloaaW.PrintMore Go.Proofs.Ythjgakoofmmloaa.PNumberDoes
set_option linter.unusedVariables false
set_option linter.unusedSimpArgs false

theorem RightN.name {B : BlkV} (h : RightN B) (k : Nat) (o : S67) (hk : B.ops[k]? = some o) : namedO o k := h.ops k o hk
theorem rdO_of {l : List S67} {n : Int} {o : S67} (h : l[n.toNat]? = some o) : qz l n = o := by
 unfold qz
 rw [List.getD_eq_getElem?_getD, h]
 rfl
section
variable {B : BlkV} (hR : RightN B)
include hR
end
theorem kindB_nm (tv : List Int) (o : S67) : kindB (nmO tv o) = kindB o := by
 unfold nmO
 by_cases h : o.f0 = 3 ∨ o.f0 = 5 ∨ o.f0 = 6
 ·rw [if_pos h]; rfl
 ·rw [if_neg h]
  by_cases h4 : o.f0 = 4
  ·rw [if_pos h4]; rfl
  ·rw [if_neg h4]
theorem namedB_nm (tv : List Int) (o : S67) : namedB (nmO tv o) = namedB o := by
 unfold nmO namedB
 by_cases h5 : o.f0 = 5
 ·simp [h5]
 by_cases h6 : o.f0 = 6
 ·simp [h6]
 by_cases h3 : o.f0 = 3
 ·simp [h3]
 by_cases h4 : o.f0 = 4
 ·simp [h4]
 ·simp [h3, h4, h5, h6]
theorem uses_nm (tv : List Int) (o : S67) : usesL (nmO tv o) = (usesL o).map (rd tv) := by
 unfold usesL
 rw [nmO_code]
 unfold nmO
 by_cases h : o.f0 = 3 ∨ o.f0 = 5 ∨ o.f0 = 6
 ·simp only [if_pos h]; rfl
 ·simp only [if_neg h]
  by_cases h4 : o.f0 = 4
  ·simp only [if_pos h4]; rfl
  ·simp only [if_neg h4]; rfl
theorem nm_xy (tv : List Int) (o : S67) : (nmO tv o).f4 = o.f4 ∧ (nmO tv o).f5 = o.f5 ∧ (nmO tv o).f3 = o.f3 := by
 unfold nmO
 by_cases h : o.f0 = 3 ∨ o.f0 = 5 ∨ o.f0 = 6
 ·rw [if_pos h]; exact ⟨rfl, rfl, rfl⟩
 ·rw [if_neg h]
  by_cases h4 : o.f0 = 4
  ·rw [if_pos h4]; exact ⟨rfl, rfl, rfl⟩
  ·rw [if_neg h4]; exact ⟨rfl, rfl, rfl⟩
theorem rising_nm (tv : List Int) (l : List S70) : ∀ last : Int, risingB last (l.map (fun v => (⟨v.f0, rd tv v.f1⟩ : S70))) = risingB last l := by
 induction l with
 | nil => intro last; rfl
 | cons v l ih =>
  intro last
  show (!decide (v.f0 ≤ last) && (!decide (31 < v.f0) && risingB v.f0 (l.map _))) = (!decide (v.f0 ≤ last) && (!decide (31 < v.f0) && risingB v.f0 l))
  rw [ih]
end Go.Proofs.Ythjgakoofmmloaa

namespace Go.Proofs.Ythjgakoofmmloaa
open Go.RowKit Go.Proofs.YthjgakoofmmloaaW.PrintWords Go.Proofs.YthjgakoofmmloaaW.PrintLast Go.Proofs.YthjgakoofmmloaaW.PrintMore Go.Proofs.Ythjgakoofmmloaa.PNumberDoes
set_option linter.unusedVariables false
set_option linter.unusedSimpArgs false

theorem infoInt : (Try.prog.info? 3).map (fun i => (i.zero, i.size, i.bytes)) = some (some (.int .i64 0), 1, 8) := by kernel_rfl
theorem RightN.named {B : BlkV} (h : RightN B) (k : Nat) (hk : k < B.ops.length) (n : Nat) (hn : n = k) : (B.ops[k].f0 = 3 ∨ B.ops[k].f0 = 4 ∨ B.ops[k].f0 = 5 ∨ B.ops[k].f0 = 6 → 0 ≤ B.ops[k].f1 ∧ B.ops[k].f1 < (n : Int)) ∧ (B.ops[k].f0 = 3 ∨ B.ops[k].f0 = 5 ∨ B.ops[k].f0 = 6 → 0 ≤ B.ops[k].f2 ∧ B.ops[k].f2 < (n : Int)) := by
 subst hn
 exact h.ops n _ (List.getElem?_eq_getElem hk)
structure ShQ (N : Nat) (B : BlkV) (wr : World) (gs gc : Nat) (v0 v2 vt vt' : Value) (G : Nat → Nat) (l : List S67) (tv : List Int) (v1 : Value) (st : Int) : Prop where
 c : ShC N wr gs gc B.last v0 v1 v2 vt st
 r : ShR N B wr v0 v2 G
 l : Kd.R k67 67 wr N (fun _ => True) v1 l
 t : Kd.R (Kd.int .i64) 3 wr N (fun _ => True) vt' tv
section
variable {N : Nat} {B : BlkV} {wr w1 : World} {gs gc : Nat} {v0 v2 vt vt' v1 : Value} {G : Nat → Nat} {l : List S67} {tv tv' : List Int} {st : Int}
theorem ShS.overT (h : ShS N B wr gs gc v0 v2 vt G l tv v1 st) (ht : Kd.R (Kd.int .i64) 3 w1 N (fun _ => True) vt' tv') (hg : wr.grownBy w1 vt.ownBlock) : ShQ N B w1 gs gc v0 v2 vt vt' G l tv' v1 st :=
 ⟨h.c.grown hg (h.c.row h.t (by decide) (by decide)), h.r.over h.t (by decide) (by decide) (by decide) hg, Kd.R_over h.l h.t (by decide) hg, ht⟩
theorem ShQ.done (h : ShQ N B wr gs gc v0 v2 vt vt' G l tv v1 st) : ShS N B (wr.setCell ⟨gs, 1, none⟩ vt') gs gc v0 v2 vt' G l tv v1 st :=
 ⟨h.c.setT vt', h.r.set h.c.bs (by decide) (by decide) (by decide) 1 _, Kd.R_set h.l h.c.bs (by decide) 1 _, Kd.R_set h.t h.c.bs (by decide) 1 _⟩
end
theorem ShS.start {N : Nat} {B : BlkV} {w : World} {gc : Nat} {v0 v1 v2 : Value} {G : Nat → Nat} (hb : w.heap[gc]? = some (.cells #[v0, v1, v2, .int .i64 B.last] 76 (0, 0))) (hp : PartP N B v0 w) (hx : ExRow N w G v2 B.exits) (hg : N ≤ gc) (hw : N ≤ w.heap.size) :
  ShS N B ((w.setCell ⟨gc, 1, none⟩ (.slice none 0 0)).alloc (.cells #[.pointer (some ⟨gc, 0, none⟩), .slice none 0 0, .int .i64 0] 104)) w.heap.size gc v0 v2 (.slice none 0 0) G [] [] (.slice none 0 0) 0 :=
 ⟨⟨by simpa using qD (w.setCell ⟨gc, 1, none⟩ (.slice none 0 0)) _, qf (qC hb 1 _) _, hw, hg⟩, ((⟨hp, hx⟩ : ShR N B w v0 v2 G).set hb (by decide) (by decide) (by decide) 1 _).below (bal (Below.refl _ _) _), Kd.R_nil _ _ _ _ _, Kd.R_nil _ _ _ _ _⟩
def mixL {α : Type} (f : α → α) (l : List α) (k : Nat) : List α := (l.take k).map f ++ l.drop k
section
variable {α : Type} (f : α → α) (l : List α)
theorem mixL_zero : mixL f l 0 = l := by simp [mixL]
theorem mixL_all : mixL f l l.length = l.map f := by simp [mixL]
theorem mixL_length (k : Nat) (h : k ≤ l.length) : (mixL f l k).length = l.length := by simp [mixL]; omega
theorem mixL_get (k : Nat) (h : k < l.length) : (mixL f l k)[k]? = some l[k] := by
 unfold mixL
 rw [List.getElem?_append_right (by simp; omega)]
 simp [Nat.min_eq_left (Nat.le_of_lt h), h]
theorem mixL_set (k : Nat) (h : k < l.length) : (mixL f l k).set k (f l[k]) = mixL f l (k + 1) := by
 unfold mixL
 have e : ((l.take k).map f).length = k := by simp; omega
 rw [List.set_append_right _ _ (by omega), e, Nat.sub_self, List.drop_eq_getElem_cons h, List.set_cons_zero, List.take_succ_eq_append_getElem h, List.map_append, List.append_assoc]
 rfl
theorem mixL_set0 (k : Nat) (h : k < l.length) : (mixL f l k).set k l[k] = mixL f l k := by
 have e := mixL_get f l k h
 apply List.ext_getElem?
 intro i
 by_cases q : i = k
 ·subst q
  rw [List.getElem?_set_self (List.getElem?_eq_some_iff.1 e).1, e]
 ·rw [List.getElem?_set_ne (fun r => q r.symm)]
end
structure ShE (N : Nat) (B : BlkV) (wr : World) (gs gc h : Nat) (v0 v2 vt : Value) (G : Nat → Nat) (xs : List S73) (l : List S67) (tv : List Int) (v1 : Value) (st : Int) : Prop where
 c : ShC N wr gs gc B.last v0 v1 v2 vt st
 p : PartP N B v0 wr
 x : ExAt N wr h G xs
 l : Kd.R k67 67 wr N (fun _ => True) v1 l
 t : Kd.R (Kd.int .i64) 3 wr N (fun _ => True) vt tv
section
variable {N : Nat} {B : BlkV} {wr w1 : World} {gs gc h : Nat} {v0 v2 vt v1 : Value} {G : Nat → Nat} {xs : List S73} {l : List S67} {tv : List Int} {st : Int}
theorem ShE.setVal (s : ShE N B wr gs gc h v0 v2 vt G xs l tv v1 st) {i m : Nat} {x : S73} {q : S70} (hx : xs[i]? = some x) (hm : x.f4[m]? = some q) (v : Int) : ShE N B (wr.setCell ⟨G i, m * 2 + 1, none⟩ (.int .i64 v)) gs gc h v0 v2 vt G (xs.set i ⟨x.f0, x.f1, x.f2, x.f3, x.f4.set m ⟨q.f0, v⟩⟩) l tv v1 st := by
 have hp : 0 < x.f4.length := by have := (List.getElem?_eq_some_iff.1 hm).1; omega
 obtain ⟨-, ⟨cur, hc⟩, -⟩ := s.x.mp i x hx hp
 exact ⟨⟨qp s.c.bs (blk_ne s.c.bs hc (by decide)) _, qp s.c.bc (blk_ne s.c.bc hc (by decide)) _, s.c.ns, s.c.nc⟩, Kd.R_set s.p hc (by decide) _ _, s.x.setVal hx hm v, Kd.R_set s.l hc (by decide) _ _, Kd.R_set s.t hc (by decide) _ _⟩
theorem ShE.below (s : ShE N B wr gs gc h v0 v2 vt G xs l tv v1 st) (hb : Below wr.heap.size wr w1) : ShE N B w1 gs gc h v0 v2 vt G xs l tv v1 st := ⟨s.c.below hb, Kd.qO s.p hb, s.x.below hb, Kd.qO s.l hb, Kd.qO s.t hb⟩
end
def exM (tv : List Int) (x : S73) (m : Nat) : S73 := ⟨x.f0, x.f1, if x.f2 = -1 then -1 else rd tv x.f2, x.f3, mixL (fun v => ⟨v.f0, rd tv v.f1⟩) x.f4 m⟩
theorem exM_len (tv : List Int) (x : S73) (m : Nat) (h : m ≤ x.f4.length) : (exM tv x m).f4.length = x.f4.length := mixL_length _ _ m h
theorem exM_step (tv : List Int) (x : S73) (m : Nat) (h : m < x.f4.length) : (⟨(exM tv x m).f0, (exM tv x m).f1, (exM tv x m).f2, (exM tv x m).f3, (exM tv x m).f4.set m ⟨x.f4[m].f0, rd tv x.f4[m].f1⟩⟩ : S73) = exM tv x (m + 1) := by
 have e := mixL_set (fun v : S70 => (⟨v.f0, rd tv v.f1⟩ : S70)) x.f4 m h
 show (⟨x.f0, x.f1, _, x.f3, _⟩ : S73) = ⟨x.f0, x.f1, _, x.f3, _⟩
 rw [← e]
 rfl
section
variable {N : Nat} {B : BlkV} {wr w1 : World} {gs gc h k m : Nat} {v0 v2 vt v1 : Value} {G : Nat → Nat} {xs : List S73} {x : S73} {l : List S67} {tv : List Int} {st : Int} {At : Option Addr} {ct : Nat}
theorem ShE.row (s : ShE N B wr gs gc h v0 v2 vt G (xs.set k (exM tv x m)) l tv v1 st) (hk : k < xs.length) (hm : m ≤ x.f4.length) : ∃ A c, wr.cell? ⟨h, k * 5 + 4, none⟩ = some (.slice A x.f4.length c) := by
 obtain ⟨-, -, -, -, A, c, d, -, -⟩ := s.x.el k _ (List.getElem?_set_self hk)
 rw [exM_len tv x m hm] at d
 exact ⟨A, c, d⟩
theorem ShE.tocell (s : ShE N B wr gs gc h v0 v2 (.slice At tv.length ct) G xs l tv v1 st) (i : Int) (h0 : 0 ≤ i) (h1 : i < (tv.length : Int)) : ∃ g2, At = some ⟨g2, 0, none⟩ ∧ wr.cell? ⟨g2, i.toNat, none⟩ = some (.int .i64 (rd tv i)) := by
 obtain ⟨g2, cap2, hv2, -, -, -⟩ := Kd.R_form s.t (by omega)
 cases hv2
 obtain ⟨ad, had, d1⟩ := Kd.at_int (Kd.R_reads' s.t).2.2 i h0 h1
 cases had
 rw [qI] at d1
 exact ⟨g2, rfl, d1⟩
theorem ShE.inner (s : ShE N B wr gs gc h v0 v2 vt G (xs.set k (exM tv x m)) l tv v1 st) (hk : k < xs.length) (hm : m < x.f4.length) : ∃ gk c, wr.cell? ⟨h, k * 5 + 4, none⟩ = some (.slice (some ⟨gk, 0, none⟩) x.f4.length c) ∧ wr.cell? ⟨gk, m * 2 + 1, none⟩ = some (.int .i64 x.f4[m].f1) ∧ wr.frozen? ⟨gk, m * 2 + 1, none⟩ = false ∧ N ≤ gk ∧
  Hid (ShE N B (wr.setCell ⟨gk, m * 2 + 1, none⟩ (.int .i64 (rd tv x.f4[m].f1))) gs gc h v0 v2 vt G (xs.set k (exM tv x (m + 1))) l tv v1 st) := by
 have hx : (xs.set k (exM tv x m))[k]? = some (exM tv x m) := List.getElem?_set_self hk
 have hl := exM_len tv x m (Nat.le_of_lt hm)
 obtain ⟨-, -, -, -, A, c, d, -, ha⟩ := s.x.el k _ hx
 have hA := ha (by omega)
 subst hA
 rw [hl] at d
 obtain ⟨hN, ⟨cur, hc⟩, hv⟩ := s.x.mp k _ hx (by omega)
 have hg : (exM tv x m).f4[m]? = some x.f4[m] := mixL_get _ _ m hm
 have hs := s.setVal hx hg (rd tv x.f4[m].f1)
 rw [List.set_set, exM_step tv x m hm] at hs
 exact ⟨G k, c, d, (hv m _ hg).2, qa hc _, hN, Lib.hid hs⟩
end
end Go.Proofs.Ythjgakoofmmloaa
