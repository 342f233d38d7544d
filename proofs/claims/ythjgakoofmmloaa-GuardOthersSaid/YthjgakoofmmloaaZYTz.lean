/- Proved: how a block of the document's, as an argument of a row, reads: its lists, and that its numbers are of their kinds. Conditions: it is an argument of its type. -/
import Derived.Orders
import Derived.WalkKit
import Derived.Below
import Derived.Test.YthjgakoofmmloaaZYJz
import Derived.Test.YthjgakoofmmloaaZPNumberDoesx7
import Derived.Test.YthjgakoofmmloaaZPNumberDoesx8
import Derived.Test.YthjgakoofmmloaaRows
import Derived.ProofKit
import Derived.OpenShut
import Derived.Carry
import Derived.Deep.Slices
namespace Go.Proofs.Ythjgakoofmmloaa
open Go.RowKit
set_option linter.unusedVariables false
set_option linter.unusedSimpArgs false

def oget (o : Oper) (a : Act) : Value := (o.dst.map fun d => a.tmps.getD d undef).getD undef
def putAll (vs : Nat → Value) : Nat → List Oper → Act → Act
 | _, [], a => a
 | k, o :: l, a => putAll vs (k + 1) l (a.put o.dst (vs k))
def factB (n : Nat) (l : List Oper) : Bool :=
 l.zipIdx.all fun x => (x.1.after.toList.all fun e => !Region.binds .any e || decide (e.on < x.2)) && (x.1.dst.all fun d => decide (d < n)) && (l.zipIdx.all fun y => x.2 == y.2 || x.1.dst == none || x.1.dst != y.1.dst)
theorem factB_spec {n : Nat} {l : List Oper} (h : factB n l = true) {j : Nat} {o : Oper} (ho : l[j]? = some o) :
  (∀ e ∈ o.after, Region.binds .any e = true → e.on < j) ∧ (∀ d, o.dst = some d → d < n) ∧ ∀ (j' : Nat) (o' : Oper), l[j']? = some o' → j ≠ j' → ∀ d, o.dst = some d → o'.dst ≠ some d := by
 unfold factB at h
 rw [List.all_eq_true] at h
 have h1 := h (o, j) (List.mem_zipIdx_iff_getElem?.2 ho)
 simp only [Bool.and_eq_true, List.all_eq_true] at h1
 obtain ⟨⟨h1, h2⟩, h3⟩ := h1
 refine ⟨fun e he hb => ?_, fun d hd => ?_, fun j' o' ho' hj d hd hd' => ?_⟩
 ·have := h1 e (by simpa using he)
  simpa [hb] using this
 ·rw [hd] at h2
  simpa using h2
 ·have := h3 (o', j') (List.mem_zipIdx_iff_getElem?.2 ho')
  simp [hj, hd, hd'] at this
theorem put_tmps (a : Act) (dst : Option Tmp) (v : Value) : (a.put dst v).tmps.size = a.tmps.size ∧ (a.put dst v).defers = a.defers := by
 cases dst <;> simp [Act.put]
theorem put_getD (a : Act) (d t : Nat) (v : Value) : (a.put (some d) v).tmps.getD t undef = if d = t ∧ d < a.tmps.size then v else a.tmps.getD t undef := by
 simp only [Act.put, Array.getD_eq_getD_getElem?, Array.getElem?_setIfInBounds]
 by_cases h : d = t
 ·subst h
  by_cases h2 : d < a.tmps.size
  ·simp [h2]
  ·simp [h2]
 ·simp [h]
theorem putAll_eq (vs : Nat → Value) (a' : Act) : ∀ (l : List Oper) (k : Nat) (a : Act), a'.defers = a.defers → a'.tmps.size = a.tmps.size →
  (∀ (j : Nat) (o : Oper) (d : Tmp), l[j]? = some o → o.dst = some d → d < a.tmps.size ∧ a'.tmps.getD d undef = vs (k + j)) →
  (∀ t, (∀ (j : Nat) (o : Oper), l[j]? = some o → o.dst ≠ some t) → a'.tmps.getD t undef = a.tmps.getD t undef) → putAll vs k l a = a' := by
 intro l
 induction l with
 | nil =>
  intro k a hd hs _ ho
  obtain ⟨T, D⟩ := a
  obtain ⟨T', D'⟩ := a'
  simp only at hd hs ho
  subst hd
  have : T = T' := by
   apply Array.ext hs.symm
   intro i h1 h2
   have := ho i (by simp)
   simpa [Array.getD_eq_getD_getElem?, h1, h2] using this.symm
  subst this
  rfl
 | cons o l ih =>
  intro k a hd hs hv ho
  have hp := put_tmps a o.dst (vs k)
  refine ih (k + 1) (a.put o.dst (vs k)) (hd.trans hp.2.symm) (hs.trans hp.1.symm) (fun j o' d h1 h2 => ?_) (fun t ht => ?_)
  ·have := hv (j + 1) o' d (by simpa using h1) h2
   exact ⟨hp.1 ▸ this.1, by rw [this.2, show k + (j + 1) = k + 1 + j by omega]⟩
  ·by_cases hot : o.dst = some t
   ·have := hv 0 o t (by simp) hot
    rw [hot, put_getD, if_pos ⟨rfl, this.1⟩, this.2]
    rfl
   ·rw [ho t (fun j o' h => by
     cases j with
     | zero => simp at h; subst h; exact hot
     | succ j => exact ht j o' (by simpa using h))]
    cases hdst : o.dst with
    | none => rfl
    | some d => rw [put_getD, if_neg (fun h => hot (by rw [hdst, h.1]))]
theorem wp_one {P : Program} {ops : Array Oper} {o : Oper} {a' : Act} {w' : World} {Q1 Q : Exit → Act → World → Prop} {K : Act → World → Prop} (hn : ∀ x a w, Q1 x a w → x = .normal ∧ a.defers = a'.defers)
  (hk : ∀ v w'', Q1 .normal (a'.put o.dst v) w'' → K (a'.put o.dst v) w'') (h : wpList P ops Q1 [o] a' w') :
  if Region.wanted o (yielded ops a'.tmps) then o.wp P a' w' K Q ∨ (o.asks P a' w' ∧ LetsOut Q) else K (a'.put o.dst undef) w' := by
 have hlo : ¬ LetsOut Q1 := fun ⟨a, w, h⟩ => by have := (hn _ _ _ h).1; cases this
 simp only [wpList] at h
 split
 ·rename_i hw
  rw [if_pos hw] at h
  rcases h with h | h
  case inr => exact absurd h.2 hlo
  refine .inl ?_
  unfold Oper.wp at *
  generalize (execOp a'.eval o).run P w' = r at *
  cases r with
  | ok n w1 =>
   cases n <;> simp only [Oper.upon] at h ⊢
   case value v => exact hk v w1 h
   case skip => exact hk undef w1 h
   case defer d =>
    have := (hn _ _ _ h).2
    rw [(put_tmps _ _ _).2] at this
    have := congrArg List.length this
    simp at this
   case enter f args =>
    refine Calls.mono h fun e w2 he => ?_
    cases e with
    | returned v => exact hk v w2 he
    | panicked c => have := (hn _ _ _ he).1; cases this
    | outgrown => exact absurd he hlo
   case row row args => exact Rows.mono h fun v w2 he => hk v w2 he
  | halt x w1 =>
   cases x <;> simp only [Oper.upon] at h ⊢
   case panic v => have := (hn _ _ _ h).1; cases this
 ·rename_i hw
  rw [if_neg hw] at h
  exact hk undef w' h
def factEdges (R : Nat → Value → World → Prop) (vs : Nat → Value) (w : World) : List Edge → Prop
 | [] => True
 | e :: es => (Region.binds .any e = true → R e.on (vs e.on) w) ∧ factEdges R vs w es
theorem factEdges_of {R : Nat → Value → World → Prop} {vs : Nat → Value} {w : World} : ∀ {l : List Edge}, (∀ e ∈ l, Region.binds .any e = true → R e.on (vs e.on) w) → factEdges R vs w l
 | [], _ => trivial
 | e :: l, h => ⟨h e (by simp), factEdges_of fun e' he' => h e' (by simp [he'])⟩
def factSteps (S : Nat → Oper → Prop) : Nat → List Oper → Prop
 | _, [] => True
 | k, o :: l => S k o ∧ factSteps S (k + 1) l
theorem factSteps_at {S : Nat → Oper → Prop} : ∀ {l : List Oper} {k : Nat}, factSteps S k l → ∀ (j : Nat) (o : Oper), l[j]? = some o → S (k + j) o
 | [], _, _, j, o, h => by simp at h
 | o' :: l, k, hs, 0, o, h => by simp at h; subst h; exact hs.1
 | o' :: l, k, hs, j + 1, o, h => by
  have := factSteps_at hs.2 j o (by simpa using h)
  rwa [show k + (j + 1) = k + 1 + j by omega]
theorem factSteps_of {S : Nat → Oper → Prop} : ∀ {l : List Oper} {k : Nat}, (∀ (j : Nat) (o : Oper), l[j]? = some o → S (k + j) o) → factSteps S k l
 | [], _, _ => trivial
 | o' :: l, k, h => ⟨h 0 o' (by simp), factSteps_of fun j o ho => by
  have := h (j + 1) o (by simpa using ho)
  rwa [show k + (j + 1) = k + 1 + j by omega] at this⟩
structure FInv (l : List Oper) (R : Nat → Value → World → Prop) (Le : World → World → Prop) (a : Act) (w : World) (listed : Array Bool) (a' : Act) (w' : World) : Prop where
 sz : listed.size = l.length
 df : a'.defers = a.defers
 ts : a'.tmps.size = a.tmps.size
 out : ∀ t, (∀ (j : Nat) (o : Oper), l[j]? = some o → o.dst ≠ some t) → a'.tmps.getD t undef = a.tmps.getD t undef
 fact : ∀ (j : Nat) (o : Oper), l[j]? = some o → listed.getD j false = true → R j (oget o a') w'
 bel : Le w w'
def valsOf (l : List Oper) (a' : Act) (j : Nat) : Value := (l[j]?.map fun o => oget o a').getD undef
theorem FInv.put {l : List Oper} {R : Nat → Value → World → Prop} {Le : World → World → Prop} {a a' : Act} {w w' : World} {listed : Array Bool} (hB : factB a.tmps.size l = true) (h : FInv l R Le a w listed a' w') : putAll (valsOf l a') 0 l a = a' :=
 putAll_eq _ _ l 0 a h.df h.ts (fun j o d ho hd => ⟨(factB_spec hB ho).2.1 d hd, by simp [valsOf, ho, oget, hd]⟩) h.out
theorem wp_region_facts {P : Program} {id : Nat} {Q : Exit → Act → World → Prop} {a : Act} {w : World} {l : List Oper} (hm : P.follows .mixedOrders = true) (hB : factB a.tmps.size l = true)
  (Le : World → World → Prop) (hL : ∀ {w1 w2 w3}, Le w1 w2 → Le w2 w3 → Le w1 w3) (h0 : Le w { w with drawn := w.drawn + 1 })
  (R : Nat → Value → World → Prop) (hR : ∀ j v w1 w2, R j v w1 → Le w1 w2 → R j v w2)
  (hst : ∀ (vs : Nat → Value) (w' : World), Le w w' → factSteps (fun j o => factEdges R vs w' o.after.toList →
   wpList P l.toArray (fun x a2 w2 => x = .normal ∧ a2.defers = a.defers ∧ R j (oget o a2) w2 ∧ Le w' w2) [o] (putAll vs 0 l a) w') 0 l)
  (hend : ∀ (vs : Nat → Value) (w' : World), Le w w' → factSteps (fun j _ => R j (vs j) w') 0 l → Q .normal (putAll vs 0 l a) w') : (Code.region id l.toArray true).wp P Q a w := by
 have all_of : ∀ (listed : Array Bool), listed.size = l.length → Region.ready .any l.toArray listed = [] → ∀ j, j < l.length → listed.getD j false = true := by
  intro listed hsz hr j
  induction j using Nat.strongRecOn with
  | _ j ih =>
   intro hj
   cases hc : listed.getD j false with
   | true => rfl
   | false =>
    have ho : l[j]? = some l[j] := List.getElem?_eq_getElem hj
    have : j ∈ Region.ready .any l.toArray listed := mem_ready.2 ⟨by simpa [Array.getD, hsz, hj] using hc, l[j], by simp [ho], fun e he hb => by
     have hlt := (factB_spec hB ho).1 e he hb
     exact ih _ hlt (by omega)⟩
    rw [hr] at this
    cases this
 have fin : ∀ (listed : Array Bool) (a' : Act) (w' : World), FInv l R Le a w listed a' w' → (∀ j, j < l.length → listed.getD j false = true) → Q .normal a' w' := by
  intro listed a' w' hI hall
  rw [← hI.put hB]
  refine hend _ w' hI.bel (factSteps_of fun j o ho => ?_)
  have hj : j < l.length := (List.getElem?_eq_some_iff.1 ho).1
  have := hI.fact j o ho (hall j hj)
  simpa [valsOf, ho] using this
 have main : ∀ (fuel : Nat) (listed : Array Bool) (a' : Act) (w' : World) (u : List Nat), u.length ≤ fuel → (∀ j, j < l.length → listed.getD j false = false → j ∈ u) → FInv l R Le a w listed a' w' → wpAny P .any l.toArray Q fuel listed a' w' := by
  intro fuel
  induction fuel with
  | zero =>
   intro listed a' w' u hu hm hI
   have hu0 : u = [] := List.length_eq_zero_iff.1 (by omega)
   have hall : ∀ j, j < l.length → listed.getD j false = true := fun j hj => by
    cases hc : listed.getD j false with
    | true => rfl
    | false => have := hm j hj hc; rw [hu0] at this; cases this
   refine ⟨?_, fin listed a' w' hI hall⟩
   apply List.eq_nil_iff_forall_not_mem.2
   intro j hj
   obtain ⟨h1, o, ho, _⟩ := mem_ready.1 hj
   have hjl : j < l.length := by have := (Array.getElem?_eq_some_iff.1 ho).1; simpa using this
   have h2 := hall j hjl
   have hs := hI.sz
   simp [Array.getD, hs, hjl] at h1 h2
   rw [h1] at h2
   cases h2
  | succ fuel ih =>
   intro listed a' w' u hu hm hI
   refine ⟨fun hr => fin listed a' w' hI (all_of listed hI.sz hr), fun i hi => ?_⟩
   obtain ⟨h1, o, ho, hed⟩ := mem_ready.1 hi
   have ho' : l[i]? = some o := by simpa using ho
   have hil : i < l.length := (List.getElem?_eq_some_iff.1 ho').1
   have hsz := hI.sz
   have hiu : i ∈ u := hm i hil (by simp [Array.getD, hsz, hil] at h1 ⊢; exact h1)
   have hs := factSteps_at (hst (valsOf l a') w' hI.bel) i o ho'
   rw [hI.put hB, Nat.zero_add] at hs
   have hw := hs (factEdges_of fun e he hb => by
    have hlt := (factB_spec hB ho').1 e (by simpa using he) hb
    have hoe : l[e.on]? = some l[e.on] := List.getElem?_eq_getElem (by omega)
    have := hI.fact e.on _ hoe (hed e (by simpa using he) hb)
    simpa [valsOf, hoe] using this)
   have key := wp_one (Q := Q) (K := fun a2 w2 => wpAny P .any l.toArray Q fuel (listed.setIfInBounds i true) a2 w2) (fun x a2 w2 h => ⟨h.1, h.2.1.trans hI.df.symm⟩) (fun v w2 h => by
    obtain ⟨_, _, hr, hle⟩ := h
    refine ih _ _ w2 (u.erase i) (by rw [List.length_erase_of_mem hiu]; omega) (fun j hj hc => ?_) ⟨?_, ?_, ?_, fun t ht => ?_, fun j oj hoj hc => ?_, hL hI.bel hle⟩
    ·by_cases hij : i = j
     ·subst hij
      simp [Array.getD, hsz, hil] at hc
     ·rw [getD_set_ne false hij] at hc
      exact (List.mem_erase_of_ne (Ne.symm hij)).2 (hm j hj hc)
    ·simpa using hsz
    ·exact (put_tmps _ _ _).2.trans hI.df
    ·exact (put_tmps _ _ _).1.trans hI.ts
    ·rw [← hI.out t ht]
     cases hd : o.dst with
     | none => rfl
     | some d => rw [put_getD, if_neg (fun h => ht i o ho' (by rw [hd, h.1]))]
    ·by_cases hij : i = j
     ·subst hij
      rw [ho'] at hoj
      cases hoj
      exact hr
     ·rw [getD_set_ne false hij] at hc
      have := hR j _ w' w2 (hI.fact j oj hoj hc) hle
      have he : oget oj (a'.put o.dst v) = oget oj a' := by
       cases hd : o.dst with
       | none => rfl
       | some d =>
        unfold oget
        cases hdj : oj.dst with
        | none => rfl
        | some dj =>
         simp only [Option.map_some, Option.getD_some]
         rw [put_getD, if_neg]
         rintro ⟨rfl, _⟩
         exact (factB_spec hB ho').2.2 j oj hoj hij _ hd hdj
      rw [he]
      exact this) hw
   unfold wpOp
   simp only [ho]
   exact key
 refine wp_region_any hm ?_
 have hf : ∀ j, (Array.replicate l.toArray.size false).getD j false = false := fun j => by
  simp only [Array.getD]
  split <;> simp
 exact main _ _ a _ (List.range l.length) (by simp) (fun j hj _ => List.mem_range.2 hj) ⟨by simp, rfl, rfl, fun _ _ => rfl, fun j o _ h => (by rw [hf j] at h; cases h), h0⟩
inductive Fc where
 | is (u : Value)
 | mem (F : Nat → Value) (cs : List (Nat × Value))
 | any (p : Value → World → Prop) (h : ∀ v w1 w2, p v w1 → Below w1.heap.size w1 w2 → p v w2)
def cellsAt (w : World) (g : Nat) : List (Nat × Value) → Prop
 | [] => True
 | (o, u) :: l => w.cell? ⟨g, o, none⟩ = some u ∧ cellsAt w g l
theorem cellsAt_keep {w1 w2 : World} (hb : Below w1.heap.size w1 w2) {g : Nat} : ∀ {l : List (Nat × Value)}, cellsAt w1 g l → cellsAt w2 g l
 | [], _ => trivial
 | (o, u) :: l, h => ⟨(hb.cell (p := ⟨g, o, none⟩) (World.block_lt_of_cell? w1 ⟨g, o, none⟩ h.1)).trans h.1, cellsAt_keep hb h.2⟩
def Fc.holds : Fc → Value → World → Prop
 | .is u, v, _ => v = u
 | .mem F cs, v, w => ∃ g, v = F g ∧ cellsAt w g cs
 | .any p _, v, w => p v w
theorem Fc.keep (f : Fc) {v : Value} {w1 w2 : World} (h : f.holds v w1) (hb : Below w1.heap.size w1 w2) : f.holds v w2 := by
 cases f with
 | is u => exact h
 | mem F cs =>
  obtain ⟨g, rfl, hc⟩ := h
  exact ⟨g, rfl, cellsAt_keep hb hc⟩
 | any p hp => exact hp _ _ _ h hb
theorem fc_below {w1 w2 w3 : World} (h1 : Below w1.heap.size w1 w2) (h2 : Below w2.heap.size w2 w3) : Below w1.heap.size w1 w3 := h1.trans (h2.mono h1.size)
theorem wp_region_fc {P : Program} {id : Nat} {Q : Exit → Act → World → Prop} {a : Act} {w : World} {l : List Oper} (hm : P.follows .mixedOrders = true) (hB : factB a.tmps.size l = true) (fs : List Fc)
  (hst : ∀ (vs : Nat → Value) (w' : World), Below w.heap.size w w' → factSteps (fun j o => factEdges (fun j v w => (fs.getD j (.is undef)).holds v w) vs w' o.after.toList →
   wpList P l.toArray (fun x a2 w2 => x = .normal ∧ a2.defers = a.defers ∧ (fs.getD j (.is undef)).holds (oget o a2) w2 ∧ Below w'.heap.size w' w2) [o] (putAll vs 0 l a) w') 0 l)
  (hend : ∀ (vs : Nat → Value) (w' : World), Below w.heap.size w w' → factSteps (fun j _ => (fs.getD j (.is undef)).holds (vs j) w') 0 l → Q .normal (putAll vs 0 l a) w') : (Code.region id l.toArray true).wp P Q a w :=
 wp_region_facts hm hB (fun w1 w2 => Below w1.heap.size w1 w2) fc_below ⟨rfl, rfl, rfl, Nat.le_refl _, fun _ _ => rfl⟩ (fun j v w => (fs.getD j (.is undef)).holds v w) (fun j v w1 w2 h hb => Fc.keep _ h hb) hst hend
end Go.Proofs.Ythjgakoofmmloaa

namespace Go.Proofs.Ythjgakoofmmloaa
open Go.RowKit Go.Proofs.YthjgakoofmmloaaW.PrintWords Go.Proofs.YthjgakoofmmloaaW.PrintLast Go.Proofs.YthjgakoofmmloaaW.PrintMore Go.Proofs.Ythjgakoofmmloaa.PNumberDoes
set_option linter.unusedVariables false
set_option linter.unusedSimpArgs false

theorem w64n (k : Nat) (h : k ≤ 1000000) : wrap64 ((k : Int) + 1) = ((k + 1 : Nat) : Int) := by unfold wrap64; omega
theorem rd_ops (ops : List S62) (n : Int) : qz (ops.map opOf) n = opOf (qk ops n) := by
 unfold qz qk
 rw [List.getD_eq_getElem?_getD, List.getD_eq_getElem?_getD, List.getElem?_map]
 cases ops[n.toNat]? <;> rfl
theorem rd_exits (exits : List S65) (n : Int) : qJ (exits.map exitOf) n = exitOf (qj exits n) := by
 unfold qJ qj
 rw [List.getD_eq_getElem?_getD, List.getD_eq_getElem?_getD, List.getElem?_map]
 cases exits[n.toNat]? <;> rfl
section
variable (pcs : List Int) (ops : List S62) (exits : List S65) (last : Int)
theorem value_f (n a : Int) : mimesisref23_Value.f pcs ops exits last n a = some (valB (blkOf pcs ops exits last) n a) := by
 unfold mimesisref23_Value.f valB valuedB
 have e1 : (blkOf pcs ops exits last).ops = ops.map opOf := rfl
 rw [e1, rd_ops, List.length_map]
 have e2 : (opOf (qk ops n)).f0 = (qk ops n).f0 := rfl
 rw [e2]
 generalize (qk ops n).f0 = c
 by_cases h0 : 0 ≤ n
 ·by_cases h1 : n < a
  ·by_cases h2 : n < (ops.length : Int)
   ·by_cases h3 : 1 ≤ c
    ·simp [h0, h1, h2, h3]
    ·simp [h0, h1, h2, h3]
   ·simp [h0, h1, h2]
  ·simp [h0, h1]
 ·simp [h0]
theorem exit_l0 (a f0 f1 f2 f3 : Int) (xs : List S85) (hx : xs.length ≤ 100) : ∀ (m i k : Nat), i + m = xs.length → m < k →
  mimesisref23_exit.l0 k a (i : Int) pcs ops exits last f0 f1 f2 f3 xs = some (!((xs.drop i).map valOf).any (badB (blkOf pcs ops exits last) a) && (decide (f2 = -1) || valB (blkOf pcs ops exits last) f2 a)) := by
 intro m
 induction m with
 | zero =>
  intro i k hi hk
  obtain ⟨k, rfl⟩ : ∃ q, k = q + 1 := ⟨k - 1, by omega⟩
  rw [mimesisref23_exit.l0, if_neg (by omega), List.drop_eq_nil_of_le (by omega)]
  by_cases h : f2 = -1
  ·simp [h]
  ·rw [if_neg h, value_f, Option.bind_some]
   simp [h]
 | succ m ih =>
  intro i k hi hk
  obtain ⟨k, rfl⟩ : ∃ q, k = q + 1 := ⟨k - 1, by omega⟩
  have hlt : i < xs.length := by omega
  have hq : qH xs (i : Int) = xs[i] := by simp [qH, hlt]
  rw [mimesisref23_exit.l0, if_pos (by omega), if_pos (by omega), value_f, Option.bind_some, w64n i (by omega), ih (i + 1) k (by omega) (by omega), hq, List.drop_eq_getElem_cons hlt]
  have hb : badB (blkOf pcs ops exits last) a (valOf xs[i]) = !valB (blkOf pcs ops exits last) xs[i].f1 a := rfl
  rw [List.map_cons, List.any_cons, hb]
  cases valB (blkOf pcs ops exits last) xs[i].f1 a <;> simp
theorem exit_f (hM : ∀ n : Int, (qj exits n).f4.length ≤ 100) (n a : Int) (k : Nat) (hk : 105 ≤ k) : mimesisref23_exit.f k pcs ops exits last n a = some (exitB (blkOf pcs ops exits last) n a) := by
 obtain ⟨k, rfl⟩ : ∃ q, k = q + 1 := ⟨k - 1, by omega⟩
 unfold mimesisref23_exit.f exitB
 have e1 : (blkOf pcs ops exits last).exits = exits.map exitOf := rfl
 rw [e1, rd_exits, List.length_map]
 by_cases h0 : n < 0
 ·rw [if_pos h0, mimesisref23_exit.j0, if_pos rfl]
  simp; omega
 ·by_cases h1 : n < (exits.length : Int)
  ·rw [if_neg h0, mimesisref23_exit.j0, if_neg (by simp; omega), if_pos (by omega), if_pos h1]
   have := exit_l0 pcs ops exits last a (qj exits n).f0 (qj exits n).f1 (qj exits n).f2 (qj exits n).f3 (qj exits n).f4 (hM n) _ 0 k (by rw [Nat.zero_add]) (by have := hM n; omega)
   rw [show ((0 : Nat) : Int) = 0 from rfl] at this
   rw [this, List.drop_zero]
   have e2 : (exitOf (qj exits n)).f2 = (qj exits n).f2 := rfl
   have e4 : (exitOf (qj exits n)).f4 = (qj exits n).f4.map valOf := rfl
   rw [e2, e4, decide_eq_true (by omega : 0 ≤ n), decide_eq_true h1, Bool.true_and, Bool.true_and, Bool.and_comm]
  ·rw [if_neg h0, mimesisref23_exit.j0, if_pos (by simp; omega)]
   simp [h1]
theorem rreckon_f (n : Int) : mimesisref23_Reckons.f n = some (reckB n) := by
 unfold mimesisref23_Reckons.f mimesisref07_Has.f mimesisref08_Has.f reckB
 by_cases h : 19 ≤ n <;> by_cases h1 : n ≤ 37 <;> by_cases h2 : 50 ≤ n <;> by_cases h3 : n ≤ 57 <;> simp [h, h1, h2, h3] <;> omega
theorem rload_f (n : Int) (k : Nat) (hk : 2 ≤ k) : mimesisref02_Loads.f k n = some (loadV n) := by
 obtain ⟨k, rfl⟩ : ∃ q, k = q + 2 := ⟨k - 2, by omega⟩
 unfold mimesisref02_Loads.f loadV
 by_cases h : n = 11
 ·simp [h, mimesisref02_Loads.j0]
 by_cases h1 : n = 14
 ·simp [h, h1, mimesisref02_Loads.j0]
 by_cases h2 : n = 12
 ·simp [h, h1, h2, mimesisref02_Loads.j0, mimesisref02_Loads.j1]
 by_cases h3 : n = 15
 ·simp [h, h1, h2, h3, mimesisref02_Loads.j0, mimesisref02_Loads.j1]
 by_cases h4 : n = 13
 ·simp [h, h1, h2, h3, h4, mimesisref02_Loads.j0, mimesisref02_Loads.j1]
 ·simp [h, h1, h2, h3, h4, mimesisref02_Loads.j0, mimesisref02_Loads.j1]
theorem rstore_f (n : Int) : mimesisref02_Stores.f n = some (storeV n) := by
 unfold mimesisref02_Stores.f storeV
 by_cases h : n = 16
 ·simp [h]
 by_cases h1 : n = 17
 ·simp [h, h1]
 by_cases h2 : n = 18
 ·simp [h, h1, h2]
 ·simp [h, h1, h2]
end
end Go.Proofs.Ythjgakoofmmloaa

namespace Go.Proofs.Ythjgakoofmmloaa
open Go.RowKit Go.Proofs.YthjgakoofmmloaaW.PrintWords Go.Proofs.YthjgakoofmmloaaW.PrintLast Go.Proofs.YthjgakoofmmloaaW.PrintMore Go.Proofs.Ythjgakoofmmloaa.PNumberDoes
set_option linter.unusedVariables false
set_option linter.unusedSimpArgs false

section
variable (pcs : List Int) (ops : List S62) (exits : List S65) (last : Int)
def opV (B : BlkV) (k : Int) (o : S67) : Bool := kindB o && (namedB o && ((usesL o).all (fun n => valB B n k) && (if o.f0 = 5 then exitB B o.f4 k && exitB B o.f5 k else if o.f0 = 4 ∨ o.f0 = 6 then exitB B o.f4 k else true)))
theorem b0 (n : Int) : (0 == n) = decide (n = 0) := by
 by_cases h : n = 0
 ·subst h; rfl
 ·rw [decide_eq_false h]
  exact beq_eq_false_iff_ne.mpr (fun e => h e.symm)
set_option maxHeartbeats 4000000 in
theorem op_j0 (hM : ∀ n : Int, (qj exits n).f4.length ≤ 100) (x1 : Int) (x : S62) (bare : Bool) (hb : bare = (decide (x.f4 = 0) && decide (x.f5 = 0))) (k : Nat) (hk : 106 ≤ k) :
  mimesisref23_op.j0 k x1 (wrap64 x.f3) bare pcs ops exits last x.f0 x.f1 x.f2 x.f3 x.f4 x.f5 = some (opV (blkOf pcs ops exits last) x1 (opOf x)) := by
 obtain ⟨k, rfl⟩ : ∃ q, k = q + 1 := ⟨k - 1, by omega⟩
 obtain ⟨f0, f1, f2, f3, f4, f5⟩ := x
 simp only at hb
 simp only [mimesisref23_op.j0, value_f, rreckon_f, rload_f _ k (by omega), rstore_f, exit_f pcs ops exits last hM _ _ k (by omega), Option.bind_some]
 unfold opV kindB namedB usesL
 simp only [opOf, b0]
 generalize blkOf pcs ops exits last = B
 subst hb
 by_cases h1 : f0 = 1
 ·subst h1
  by_cases a : 1 ≤ wrap64 f3 <;> by_cases b : wrap64 f3 ≤ 31 <;> by_cases c : f4 = 0 <;> by_cases d : f5 = 0 <;> by_cases e : f1 = 0 <;> by_cases g : f2 = 0 <;> simp [a, b, c, d, e, g]
 by_cases h2 : f0 = 2
 ·subst h2
  by_cases c : f4 = 0 <;> by_cases d : f5 = 0 <;> by_cases e : f1 = 0 <;> by_cases g : f2 = 0 <;> simp [c, d, e, g]
 by_cases h3 : f0 = 3
 ·subst h3
  rcases Bool.eq_false_or_eq_true (valB B f1 x1) with u | u <;> rcases Bool.eq_false_or_eq_true (valB B f2 x1) with v | v <;> rcases Bool.eq_false_or_eq_true (reckB (wrap64 f3)) with r | r <;> by_cases c : f4 = 0 <;> by_cases d : f5 = 0 <;> simp [c, d, u, v, r]
 by_cases h4 : f0 = 4
 ·subst h4
  rcases Bool.eq_false_or_eq_true (valB B f1 x1) with u | u <;> rcases Bool.eq_false_or_eq_true (exitB B f4 x1) with v | v <;> by_cases c : f2 = 0 <;> by_cases d : f5 = 0 <;> by_cases e : 0 < loadV (wrap64 f3) <;> simp [c, d, e, u, v]
 by_cases h5 : f0 = 5
 ·subst h5
  rcases Bool.eq_false_or_eq_true (valB B f1 x1) with u | u <;> rcases Bool.eq_false_or_eq_true (valB B f2 x1) with u2 | u2 <;> rcases Bool.eq_false_or_eq_true (exitB B f4 x1) with v | v <;> rcases Bool.eq_false_or_eq_true (exitB B f5 x1) with v2 | v2 <;> by_cases e : 0 < storeV (wrap64 f3) <;> simp [e, u, u2, v, v2]
 by_cases h6 : f0 = 6
 ·subst h6
  rcases Bool.eq_false_or_eq_true (valB B f1 x1) with u | u <;> rcases Bool.eq_false_or_eq_true (valB B f2 x1) with u2 | u2 <;> rcases Bool.eq_false_or_eq_true (exitB B f4 x1) with v | v <;> by_cases a : 5 ≤ wrap64 f3 <;> by_cases b : wrap64 f3 ≤ 10 <;> by_cases d : f5 = 0 <;> simp [a, b, d, u, u2, v]
 simp [h1, h2, h3, h4, h5, h6]
theorem op_f (hM : ∀ n : Int, (qj exits n).f4.length ≤ 100) (n : Nat) (hn : n < ops.length) (k : Nat) (hk : 106 ≤ k) : mimesisref23_op.f k pcs ops exits last (n : Int) = some (opB (blkOf pcs ops exits last) (n : Int)) := by
 have e : opB (blkOf pcs ops exits last) (n : Int) = opV (blkOf pcs ops exits last) (n : Int) (opOf (qk ops (n : Int))) := by
  unfold opB opV
  have e1 : (blkOf pcs ops exits last).ops = ops.map opOf := rfl
  rw [e1, rd_ops]
 unfold mimesisref23_op.f
 rw [if_pos (by omega), if_pos (by omega), e]
 by_cases h : (qk ops (n : Int)).f4 = 0
 ·rw [if_pos h]
  refine op_j0 pcs ops exits last hM _ _ _ ?_ k hk
  rw [decide_eq_true h, Bool.true_and]
  by_cases h5 : (qk ops (n : Int)).f5 = 0
  ·rw [h5]; rfl
  ·rw [decide_eq_false h5]; exact beq_eq_false_iff_ne.mpr h5
 ·rw [if_neg h]
  refine op_j0 pcs ops exits last hM _ _ _ ?_ k hk
  rw [decide_eq_false h, Bool.false_and]
theorem leaves_l0 (f0 f1 f2 f3 : Int) (xs : List S85) (hx : xs.length ≤ 100) : ∀ (m i k : Nat) (p : Int), i + m = xs.length → m < k → (i = 0 → p = 0) → (∀ j : Nat, i = j + 1 → p = (qH xs (j : Int)).f0 ∧ 1 ≤ p) →
  mimesisref23_leaves.l0 k (i : Int) f0 f1 f2 f3 xs = some (risingB p ((xs.drop i).map valOf)) := by
 intro m
 induction m with
 | zero =>
  intro i k p hi hk _ _
  obtain ⟨k, rfl⟩ : ∃ q, k = q + 1 := ⟨k - 1, by omega⟩
  rw [mimesisref23_leaves.l0, if_neg (by omega), List.drop_eq_nil_of_le (by omega)]
  rfl
 | succ m ih =>
  intro i k p hi hk hp0 hp1
  obtain ⟨k, rfl⟩ : ∃ q, k = q + 1 := ⟨k - 1, by omega⟩
  have hlt : i < xs.length := by omega
  have hq : qH xs (i : Int) = xs[i] := by simp [qH, hlt]
  have hs : risingB p ((xs.drop i).map valOf) = (!decide (xs[i].f0 ≤ p) && (!decide (31 < xs[i].f0) && risingB xs[i].f0 ((xs.drop (i + 1)).map valOf))) := by
   rw [List.drop_eq_getElem_cons hlt]
   rfl
  have hI := fun h1 : 1 ≤ xs[i].f0 => ih (i + 1) k xs[i].f0 (by omega) (by omega) (by omega) (fun j hj => by
   obtain rfl : j = i := by omega
   exact ⟨by rw [hq], h1⟩)
  rw [mimesisref23_leaves.l0, if_pos (by omega), if_pos (by omega), hq, hs]
  by_cases h1 : xs[i].f0 < 1
  ·rw [if_pos h1]
   have : xs[i].f0 ≤ p := by
    cases i with
    | zero => have := hp0 rfl; omega
    | succ j => have := (hp1 j rfl).2; omega
   simp [this]
  rw [if_neg h1]
  by_cases h2 : 31 < xs[i].f0
  ·rw [if_pos h2]
   simp [h2]
  rw [if_neg h2]
  cases i with
  | zero =>
   have := hp0 rfl
   rw [if_neg (by omega), w64n 0 (by omega), hI (by omega), decide_eq_false (by omega : ¬ xs[0].f0 ≤ p), decide_eq_false h2]
   rfl
  | succ j =>
   have hp := hp1 j rfl
   rw [if_pos (by omega), show wrap64 (((j + 1 : Nat) : Int) - 1) = (j : Int) by unfold wrap64; omega, if_pos (by omega), if_pos (by omega), ← hp.1]
   by_cases h3 : xs[j + 1].f0 ≤ p
   ·rw [if_pos h3]
    simp [h3]
   ·rw [if_neg h3, w64n (j + 1) (by omega), hI (by omega), decide_eq_false h3, decide_eq_false h2]
    rfl
theorem leaves_f (hM : ∀ n : Int, (qj exits n).f4.length ≤ 100) (n : Nat) (hn : n < exits.length) (k : Nat) (hk : 106 ≤ k) : mimesisref23_leaves.f k pcs ops exits last (n : Int) = some (leavesB (blkOf pcs ops exits last) (n : Int)) := by
 obtain ⟨k, rfl⟩ : ∃ q, k = q + 1 := ⟨k - 1, by omega⟩
 unfold mimesisref23_leaves.f leavesB
 have e1 : (blkOf pcs ops exits last).exits = exits.map exitOf := rfl
 have e2 : (blkOf pcs ops exits last).ops.length = ops.length := by simp [blkOf]
 have e3 : (blkOf pcs ops exits last).pcs = pcs := rfl
 rw [e1, rd_exits, e2, e3, if_pos (by omega), if_pos (by omega), exit_f pcs ops exits last hM _ _ (k + 1) (by omega), Option.bind_some]
 have hm := hM (n : Int)
 have hl := fun f0 f1 f2 f3 => leaves_l0 f0 f1 f2 f3 (qj exits (n : Int)).f4 hm _ 0 k 0 (by rw [Nat.zero_add]) (by omega) (fun _ => rfl) (fun j hj => by omega)
 generalize exitB (blkOf pcs ops exits last) (n : Int) (ops.length : Int) = E
 generalize qj exits (n : Int) = x at *
 have hl' : ∀ f0 f1 f2 f3 : Int, mimesisref23_leaves.l0 k 0 f0 f1 f2 f3 x.f4 = some (risingB 0 (x.f4.map valOf)) := fun f0 f1 f2 f3 => by
  have := hl f0 f1 f2 f3
  rwa [List.drop_zero] at this
 have g : exitOf x = ⟨x.f0, x.f1, x.f2, x.f3, x.f4.map valOf⟩ := rfl
 rw [g]
 simp only [mimesisref23_leaves.j0, hl']
 generalize risingB 0 (x.f4.map valOf) = r
 cases E
 ·simp
 by_cases h0 : x.f0 < 0
 ·simp [h0]
 by_cases h1 : (pcs.length : Int) < x.f0
 ·simp [h0, h1]
 by_cases h2 : x.f1.tmod 4 = 0
 ·by_cases h3 : x.f3 < 1
  ·simp [h0, h1, h2, h3]
  ·by_cases h4 : 4 < x.f3
   ·simp [h0, h1, h2, h3, h4]
   ·simp [h0, h1, h2, h3, h4]
 ·simp [h0, h1, h2]
theorem check_l2 (hM : ∀ n : Int, (qj exits n).f4.length ≤ 100) (hp : pcs.length ≤ 32) : ∀ (m i k : Nat), i + m = pcs.length → m + 110 ≤ k →
  mimesisref23_Check.l2 k (i : Int) pcs ops exits last = some (if (!(pcs.drop i).any oddB && (decide (0 < pcs.length) && exitB (blkOf pcs ops exits last) last ops.length)) = true then 0 else 1) := by
 intro m
 induction m with
 | zero =>
  intro i k hi hk
  obtain ⟨k, rfl⟩ : ∃ q, k = q + 1 := ⟨k - 1, by omega⟩
  rw [mimesisref23_Check.l2, if_neg (by omega), List.drop_eq_nil_of_le (by omega), exit_f pcs ops exits last hM _ _ k (by omega), Option.bind_some]
  by_cases h : pcs.length = 0
  ·rw [if_pos (by omega)]
   simp [h]
  ·rw [if_neg (by omega)]
   cases exitB (blkOf pcs ops exits last) last (ops.length : Int)
   ·simp
   ·simp [show 0 < pcs.length by omega]
 | succ m ih =>
  intro i k hi hk
  obtain ⟨k, rfl⟩ : ∃ q, k = q + 1 := ⟨k - 1, by omega⟩
  have hlt : i < pcs.length := by omega
  have hq : rd pcs (i : Int) = pcs[i] := by simp [rd, hlt]
  rw [mimesisref23_Check.l2, if_pos (by omega), if_pos (by omega), w64n i (by omega), ih (i + 1) k (by omega) (by omega), hq, List.drop_eq_getElem_cons hlt, List.any_cons]
  have ho : oddB pcs[i] = (pcs[i].tmod 4 != 0) := rfl
  rw [ho]
  by_cases h : pcs[i].tmod 4 = 0
  ·rw [if_pos h]
   simp [h]
  ·rw [if_neg h, (by simpa using h : (pcs[i].tmod 4 != 0) = true)]
   simp
theorem check_l1 (hM : ∀ n : Int, (qj exits n).f4.length ≤ 100) (hp : pcs.length ≤ 32) (he : exits.length ≤ 128) : ∀ (m i k : Nat), i + m = exits.length → m + 150 ≤ k →
  mimesisref23_Check.l1 k (i : Int) pcs ops exits last = some (if ((List.range' i m).all (fun n => leavesB (blkOf pcs ops exits last) (n : Int)) && (!pcs.any oddB && (decide (0 < pcs.length) && exitB (blkOf pcs ops exits last) last ops.length))) = true then 0 else 1) := by
 intro m
 induction m with
 | zero =>
  intro i k hi hk
  obtain ⟨k, rfl⟩ : ∃ q, k = q + 1 := ⟨k - 1, by omega⟩
  have := check_l2 pcs ops exits last hM hp _ 0 k (by rw [Nat.zero_add]) (by omega)
  rw [show ((0 : Nat) : Int) = 0 from rfl, List.drop_zero] at this
  rw [mimesisref23_Check.l1, if_neg (by omega), this]
  rfl
 | succ m ih =>
  intro i k hi hk
  obtain ⟨k, rfl⟩ : ∃ q, k = q + 1 := ⟨k - 1, by omega⟩
  have hlt : i < exits.length := by omega
  rw [mimesisref23_Check.l1, if_pos (by omega), leaves_f pcs ops exits last hM i hlt k (by omega), Option.bind_some, w64n i (by omega), ih (i + 1) k (by omega) (by omega), List.range'_succ, List.all_cons]
  cases leavesB (blkOf pcs ops exits last) (i : Int)
  ·rfl
  ·rfl
theorem check_l0 (hM : ∀ n : Int, (qj exits n).f4.length ≤ 100) (hp : pcs.length ≤ 32) (ho : ops.length ≤ 512) (he : exits.length ≤ 128) : ∀ (m i k : Nat), i + m = ops.length → m + 300 ≤ k →
  mimesisref23_Check.l0 k (i : Int) pcs ops exits last = some (if ((List.range' i m).all (fun n => opB (blkOf pcs ops exits last) (n : Int)) && ((List.range exits.length).all (fun n => leavesB (blkOf pcs ops exits last) (n : Int)) && (!pcs.any oddB && (decide (0 < pcs.length) && exitB (blkOf pcs ops exits last) last ops.length)))) = true then 0 else 1) := by
 intro m
 induction m with
 | zero =>
  intro i k hi hk
  obtain ⟨k, rfl⟩ : ∃ q, k = q + 1 := ⟨k - 1, by omega⟩
  have := check_l1 pcs ops exits last hM hp he _ 0 k (by rw [Nat.zero_add]) (by omega)
  rw [show ((0 : Nat) : Int) = 0 from rfl] at this
  rw [mimesisref23_Check.l0, if_neg (by omega), this, ← List.range_eq_range']
  rfl
 | succ m ih =>
  intro i k hi hk
  obtain ⟨k, rfl⟩ : ∃ q, k = q + 1 := ⟨k - 1, by omega⟩
  have hlt : i < ops.length := by omega
  rw [mimesisref23_Check.l0, if_pos (by omega), op_f pcs ops exits last hM i hlt k (by omega), Option.bind_some, w64n i (by omega), ih (i + 1) k (by omega) (by omega), List.range'_succ, List.all_cons]
  cases opB (blkOf pcs ops exits last) (i : Int)
  ·rfl
  ·rfl
theorem check_f (hM : ∀ n : Int, (qj exits n).f4.length ≤ 100) : mimesisref23_Check.f 1000 pcs ops exits last = some (checkB (blkOf pcs ops exits last)) := by
 unfold mimesisref23_Check.f checkB
 have e0 : (blkOf pcs ops exits last).pcs = pcs := rfl
 have e1 : (blkOf pcs ops exits last).ops.length = ops.length := by simp [blkOf]
 have e2 : (blkOf pcs ops exits last).exits.length = exits.length := by simp [blkOf]
 have e3 : (blkOf pcs ops exits last).last = last := rfl
 rw [e0, e1, e2]
 by_cases h0 : 32 < pcs.length
 ·rw [if_pos (by omega), if_pos (by omega), mimesisref23_Check.j0, if_pos rfl]
 rw [if_neg (by omega)]
 by_cases h1 : 512 < ops.length
 ·rw [if_pos (by omega), if_pos (by omega), mimesisref23_Check.j0, if_pos rfl]
 rw [if_neg (by omega)]
 by_cases h2 : 128 < exits.length
 ·rw [if_pos (by omega), mimesisref23_Check.j0, if_pos (by simp; omega)]
 have := check_l0 pcs ops exits last hM (by omega) (by omega) (by omega) _ 0 999 (by rw [Nat.zero_add]) (by omega)
 rw [show ((0 : Nat) : Int) = 0 from rfl] at this
 rw [if_neg (by omega), mimesisref23_Check.j0, if_neg (by simp; omega), this, ← List.range_eq_range']
 unfold rightB
 rw [e0, e1, e2, e3]
 congr 2
 rw [Bool.and_left_comm (!pcs.any oddB)]
def lightB : Bool := decide (pcs.length ≤ 100) && (decide (ops.length ≤ 600) && (decide (exits.length ≤ 200) && exits.all (fun e => decide (e.f4.length ≤ 100))))
theorem light_maps (h : lightB pcs ops exits = true) : pcs.length ≤ 100 ∧ ops.length ≤ 600 ∧ exits.length ≤ 200 ∧ (∀ x ∈ exits, x.f4.length ≤ 100) ∧ ∀ n : Int, (qj exits n).f4.length ≤ 100 := by
 unfold lightB at h
 simp only [Bool.and_eq_true, decide_eq_true_eq, List.all_eq_true] at h
 refine ⟨h.1, h.2.1, h.2.2.1, h.2.2.2, fun n => ?_⟩
 unfold qj
 rw [List.getD_eq_getElem?_getD]
 cases hq : exits[n.toNat]? with
 | none => exact Nat.zero_le _
 | some x => exact h.2.2.2 x (List.mem_of_getElem? hq)
end
end Go.Proofs.Ythjgakoofmmloaa

namespace Go.Proofs.Ythjgakoofmmloaa
open Go.RowKit Go.Proofs.YthjgakoofmmloaaW.PrintWords Go.Proofs.YthjgakoofmmloaaW.PrintLast Go.Proofs.YthjgakoofmmloaaW.PrintMore Go.Proofs.Ythjgakoofmmloaa.PNumberDoes
set_option linter.unusedVariables false
set_option linter.unusedSimpArgs false

structure ArgB (w : World) (A0 A1 A2 : Option Addr) (c0 c1 c2 : Nat) (pcs : List Int) (ops : List S62) (exits : List S65) : Prop where
 C0 : (Kd.int .u32).C w A0 pcs.length pcs
 C1 : k62.C w A1 ops.length ops
 C2 : k65.C w A2 exits.length exits
 l0 : pcs.length ≤ c0
 l1 : ops.length ≤ c1
 l2 : exits.length ≤ c2
theorem ArgB.below {w w1 : World} {A0 A1 A2 : Option Addr} {c0 c1 c2 : Nat} {pcs : List Int} {ops : List S62} {exits : List S65} (h : ArgB w A0 A1 A2 c0 c1 c2 pcs ops exits) (hb : Below w.heap.size w w1) : ArgB w1 A0 A1 A2 c0 c1 c2 pcs ops exits :=
 ⟨Kd.qn h.C0 hb, Kd.qn h.C1 hb, Kd.qn h.C2 hb, h.l0, h.l1, h.l2⟩
theorem rcheck_c (A0 A1 A2 : Option Addr) (c0 c1 c2 : Nat) (last : Int) (pcs : List Int) (ops : List S62) (exits : List S65) (hL : lightB pcs ops exits = true) (w : World) (h : ArgB w A0 A1 A2 c0 c1 c2 pcs ops exits) :
  Calls Try.prog 16 #[.agg #[.slice A0 pcs.length c0, .slice A1 ops.length c1, .slice A2 exits.length c2, .int .i64 last]] w fun e w' => e = .returned (.int .i64 (checkB (blkOf pcs ops exits last))) ∧ Below w.heap.size w w' :=
 mimesisref23_Check.calls 1000 A0 c0 pcs A1 c1 ops A2 c2 exits last _ w h.C0 h.l0 h.C1 h.l1 h.C2 h.l2 (check_f pcs ops exits last (light_maps pcs ops exits hL).2.2.2.2)
theorem own_a (A0 A1 A2 : Option Addr) (c0 c1 c2 : Nat) (last : Int) (pcs : List Int) (ops : List S62) (exits : List S65) (hL : lightB pcs ops exits = true) (w : World) (h : ArgB w A0 A1 A2 c0 c1 c2 pcs ops exits) :
  Calls Try.prog 20 #[.agg #[.slice A0 pcs.length c0, .slice A1 ops.length c1, .slice A2 exits.length c2, .int .i64 last]] w fun e w' => e = .returned (.pointer (some ⟨w.heap.size + 1, 0, none⟩)) ∧ BlockAt w' (w.heap.size + 1) (blkOf pcs ops exits last) ∧ Below w.heap.size w w' := by
 obtain ⟨a, b, c, d, -⟩ := light_maps pcs ops exits hL
 exact own_c A0 A1 A2 _ _ _ c0 c1 c2 last pcs ops exits rfl rfl rfl (by omega) (by omega) (fun x hx => by have := d x hx; omega) w h.C0 h.C1 h.C2
theorem blk_maps (pcs : List Int) (ops : List S62) (exits : List S65) (last : Int) (hL : lightB pcs ops exits = true) : Maps (blkOf pcs ops exits last) ∧ (blkOf pcs ops exits last).pcs.length ≤ 1000000 ∧ (blkOf pcs ops exits last).ops.length ≤ 1000000 ∧ (blkOf pcs ops exits last).exits.length ≤ 1000000 := by
 obtain ⟨a, b, c, d, e⟩ := light_maps pcs ops exits hL
 refine ⟨fun n => ?_, ?_, ?_, ?_⟩
 ·have e1 : (blkOf pcs ops exits last).exits = exits.map exitOf := rfl
  rw [e1, rd_exits]
  have := e n
  show ((qj exits n).f4.map valOf).length ≤ 1000000
  rw [List.length_map]
  omega
 ·show pcs.length ≤ 1000000; omega
 ·show (ops.map opOf).length ≤ 1000000; rw [List.length_map]; omega
 ·show (exits.map exitOf).length ≤ 1000000; rw [List.length_map]; omega
def PtrB (B : BlkV) (v : Value) (w : World) : Prop := ∃ g, v = .pointer (some ⟨g, 0, none⟩) ∧ BlockAt w g B
theorem PtrB.keep {B : BlkV} (v : Value) (w1 w2 : World) (h : PtrB B v w1) (hb : Below w1.heap.size w1 w2) : PtrB B v w2 := by
 obtain ⟨g, hv, hB⟩ := h
 exact ⟨g, hv, hB.below hb⟩
end Go.Proofs.Ythjgakoofmmloaa

namespace Go.Proofs.Ythjgakoofmmloaa
open Go.RowKit Go.Proofs.YthjgakoofmmloaaW.PrintWords Go.Proofs.YthjgakoofmmloaaW.PrintLast Go.Proofs.YthjgakoofmmloaaW.PrintMore Go.Proofs.Ythjgakoofmmloaa.PNumberDoes
open Go.ChangeShapes Go.WideShapes Go.ChangeAt Go.Deep
set_option linter.unusedVariables false
set_option linter.unusedSimpArgs false
set_option maxRecDepth 100000

def I64 (n : Int) : Prop := -9223372036854775808 ≤ n ∧ n ≤ 9223372036854775807
def OpI (o : S67) : Prop := I64 o.f0 ∧ I64 o.f1 ∧ I64 o.f2 ∧ (0 ≤ o.f3 ∧ o.f3 ≤ 4294967295) ∧ I64 o.f4 ∧ I64 o.f5
def ExI (e : S73) : Prop := I64 e.f0 ∧ (0 ≤ e.f1 ∧ e.f1 ≤ 4294967295) ∧ I64 e.f2 ∧ I64 e.f3 ∧ ∀ v ∈ e.f4, I64 v.f0 ∧ I64 v.f1
structure BlkI (B : BlkV) : Prop where
 ops : ∀ o ∈ B.ops, OpI o
 exits : ∀ e ∈ B.exits, ExI e
 last : I64 B.last
section
variable {H : Type} {enc : TypeId × Value → H} {w : World} {base : Nat} {sp : Nat → Bool} {held : Bool}
theorem rb_i64 {x : Int} (h : (Lit.int .i64 x).wf = true) : -9223372036854775808 ≤ x ∧ x ≤ 9223372036854775807 := by
 have h0 : IntKind.i64.min = -9223372036854775808 := rfl
 have h1 : IntKind.i64.max = 9223372036854775807 := rfl
 simp only [Lit.wf, Bool.and_eq_true, decide_eq_true_eq] at h
 omega
theorem rb_u32 {x : Int} (h : (Lit.int .u32 x).wf = true) : 0 ≤ x ∧ x ≤ 4294967295 := by
 have h0 : IntKind.u32.min = 0 := rfl
 have h1 : IntKind.u32.max = 4294967295 := rfl
 simp only [Lit.wf, Bool.and_eq_true, decide_eq_true_eq] at h
 omega
theorem slice_of {α : Type} [Inhabited α] {d : Kd α} {good : α → Prop} {t e : TypeId} {fuel : Nat} {cs : List Value} {x : DataW H × List MemPlace} (ht : Try.prog.underlying t = some (.slice e)) (hz : Try.prog.cellsOf e = d.sz)
  (hE : ∀ (m : Nat) (cs : List Value) (x : DataW H × List MemPlace), DataW.trod enc Try.prog w base sp held m e cs = some x → ∃ y : α, d.K w y cs ∧ good y)
  (h : DataW.trod enc Try.prog w base sp held fuel t cs = some x) : ∃ (a : Option Addr) (cap : Nat) (xs : List α), cs = [.slice a xs.length cap] ∧ d.C w a xs.length xs ∧ xs.length ≤ cap ∧ ∀ y ∈ xs, good y := by
 rcases open_slice ht h with ⟨hcs, _⟩ | ⟨ad, l, c, m, n, D, Pl, hcs, _, hl, hm, hmm, _, hx⟩
 ·exact ⟨none, 0, [], hcs, Kd.C_nil _ _, Nat.le_refl _, fun y hy => by cases hy⟩
 ·have hle : l ≤ m := by rw [hmm]; split <;> omega
  obtain ⟨F, hF⟩ := choose_lt (n := l) (p := fun i (y : α) => ∃ cs', w.cells? base (ad.add (i * d.sz)) d.sz = some cs' ∧ d.K w y cs' ∧ good y) (fun i hi => by
   obtain ⟨cs', h1, h2⟩ := hx i (by omega)
   rw [hz] at h1
   obtain ⟨y, hy, hg⟩ := hE _ _ _ h2
   exact ⟨y, cs', h1, hy, hg⟩)
  refine ⟨some ad, c, (List.range l).map F, by simpa using hcs, ⟨rfl, by simp only [maxLen] at hm; simp; omega, fun _ => ⟨ad, rfl, fun j y hj => ?_⟩⟩, by simpa using hl, fun y hy => ?_⟩
  ·have hjl : j < l := by have := (List.getElem?_eq_some_iff.1 hj).1; simpa using this
   have hyj : y = F j := by rw [List.getElem?_map, List.getElem?_range hjl] at hj; simpa using hj.symm
   subst hyj
   obtain ⟨cs', h1, h2, _⟩ := hF j hjl
   refine ⟨cs', d.K_len h2, h2, fun i u hu => ?_⟩
   have hi : i < d.sz := by have := (List.getElem?_eq_some_iff.1 hu).1; rw [d.K_len h2] at this; exact this
   have := (World.cells?_some h1).2.2 i hi
   rw [Go.Deep.add_add] at this
   exact this.trans hu
  ·obtain ⟨j, hj, rfl⟩ := List.mem_map.1 hy
   obtain ⟨cs', h1, h2, h3⟩ := hF j (List.mem_range.1 hj)
   exact h3
theorem rb_int {t : TypeId} {m : Nat} {c : List Value} {x : DataW H × List MemPlace} (ht : Try.prog.underlying t = some (.int .i64)) (h : DataW.trod enc Try.prog w base sp held m t c = some x) : ∃ z : Int, c = [.int .i64 z] ∧ I64 z := by
 obtain ⟨z, hc, _, hw⟩ := DataW.trod_int ht h
 exact ⟨z, hc, rb_i64 hw⟩
theorem rb_word {t : TypeId} {m : Nat} {c : List Value} {x : DataW H × List MemPlace} (ht : Try.prog.underlying t = some (.int .u32)) (h : DataW.trod enc Try.prog w base sp held m t c = some x) : ∃ z : Int, c = [.int .u32 z] ∧ 0 ≤ z ∧ z ≤ 4294967295 := by
 obtain ⟨z, hc, _, hw⟩ := DataW.trod_int ht h
 exact ⟨z, hc, rb_u32 hw⟩
theorem rb_op {m : Nat} {cs : List Value} {x : DataW H × List MemPlace} (h : DataW.trod enc Try.prog w base sp held m 62 cs = some x) : ∃ y : S62, k62.K w y cs ∧ OpI (opOf y) := by
 obtain ⟨xs, m', -, -, hn, hl, hx⟩ := DataW.trod_struct Try.underlying62 h
 rw [show Try.prog.cellsOf 62 = 6 from by kernel_rfl] at hn
 match cs, hn with
 | [c0, c1, c2, c3, c4, c5], _ =>
 match xs, hl with
 | [y0, y1, y2, y3, y4, y5], _ =>
 have z1 : Try.prog.cellsOf 3 = 1 := by kernel_rfl
 have z3 : Try.prog.cellsOf 27 = 1 := by kernel_rfl
 obtain ⟨f0, e0, w0⟩ := rb_int Try.underlying3 (c := [c0]) (by have := hx 0 _ rfl; simpa [z1, z3] using this)
 obtain ⟨f1, e1, w1⟩ := rb_int Try.underlying3 (c := [c1]) (by have := hx 1 _ rfl; simpa [z1, z3] using this)
 obtain ⟨f2, e2, w2⟩ := rb_int Try.underlying3 (c := [c2]) (by have := hx 2 _ rfl; simpa [z1, z3] using this)
 obtain ⟨f3, e3, w3⟩ := rb_word Try.underlying27 (c := [c3]) (by have := hx 3 _ rfl; simpa [z1, z3] using this)
 obtain ⟨f4, e4, w4⟩ := rb_int Try.underlying3 (c := [c4]) (by have := hx 4 _ rfl; simpa [z1, z3] using this)
 obtain ⟨f5, e5, w5⟩ := rb_int Try.underlying3 (c := [c5]) (by have := hx 5 _ rfl; simpa [z1, z3] using this)
 simp only [List.cons.injEq, and_true] at e0 e1 e2 e3 e4 e5
 subst e0 e1 e2 e3 e4 e5
 exact ⟨⟨f0, f1, f2, f3, f4, f5⟩, k62_mk w ⟨f0, f1, f2, f3, f4, f5⟩, w0, w1, w2, w3, w4, w5⟩
theorem rb_val {m : Nat} {cs : List Value} {x : DataW H × List MemPlace} (h : DataW.trod enc Try.prog w base sp held m 85 cs = some x) : ∃ y : S85, k85.K w y cs ∧ (I64 y.f0 ∧ I64 y.f1) := by
 obtain ⟨xs, m', -, -, hn, hl, hx⟩ := DataW.trod_struct Try.underlying85 h
 rw [show Try.prog.cellsOf 85 = 2 from by kernel_rfl] at hn
 match cs, hn with
 | [c0, c1], _ =>
 match xs, hl with
 | [y0, y1], _ =>
 have z1 : Try.prog.cellsOf 3 = 1 := by kernel_rfl
 obtain ⟨f0, e0, w0⟩ := rb_int Try.underlying3 (c := [c0]) (by have := hx 0 _ rfl; simpa [z1] using this)
 obtain ⟨f1, e1, w1⟩ := rb_int Try.underlying3 (c := [c1]) (by have := hx 1 _ rfl; simpa [z1] using this)
 simp only [List.cons.injEq, and_true] at e0 e1
 subst e0 e1
 exact ⟨⟨f0, f1⟩, k85_mk w ⟨f0, f1⟩, w0, w1⟩
instance : Inhabited S62 := ⟨z62⟩
instance : Inhabited S85 := ⟨z85⟩
instance : Inhabited S65 := ⟨z65⟩
theorem rb_exit {m : Nat} {cs : List Value} {x : DataW H × List MemPlace} (h : DataW.trod enc Try.prog w base sp held m 65 cs = some x) : ∃ y : S65, k65.K w y cs ∧ ExI (exitOf y) := by
 obtain ⟨xs, m', -, -, hn, hl, hx⟩ := DataW.trod_struct Try.underlying65 h
 rw [show Try.prog.cellsOf 65 = 5 from by kernel_rfl] at hn
 match cs, hn with
 | [c0, c1, c2, c3, c4], _ =>
 match xs, hl with
 | [y0, y1, y2, y3, y4], _ =>
 have z1 : Try.prog.cellsOf 3 = 1 := by kernel_rfl
 have z3 : Try.prog.cellsOf 27 = 1 := by kernel_rfl
 have z4 : Try.prog.cellsOf 63 = 1 := by kernel_rfl
 obtain ⟨f0, e0, w0⟩ := rb_int Try.underlying3 (c := [c0]) (by have := hx 0 _ rfl; simpa [z1, z3, z4] using this)
 obtain ⟨f1, e1, w1⟩ := rb_word Try.underlying27 (c := [c1]) (by have := hx 1 _ rfl; simpa [z1, z3, z4] using this)
 obtain ⟨f2, e2, w2⟩ := rb_int Try.underlying3 (c := [c2]) (by have := hx 2 _ rfl; simpa [z1, z3, z4] using this)
 obtain ⟨f3, e3, w3⟩ := rb_int Try.underlying3 (c := [c3]) (by have := hx 3 _ rfl; simpa [z1, z3, z4] using this)
 obtain ⟨A4, cap, f4, e4, hC, hl4, w4⟩ := slice_of (d := k85) (good := fun y => I64 y.f0 ∧ I64 y.f1) Try.underlying63 (by kernel_rfl) (fun _ _ _ h => rb_val h) (cs := [c4]) (by have := hx 4 _ rfl; simpa [z1, z3, z4] using this)
 simp only [List.cons.injEq, and_true] at e0 e1 e2 e3 e4
 subst e0 e1 e2 e3 e4
 refine ⟨⟨f0, f1, f2, f3, f4⟩, k65_mk w ⟨f0, f1, f2, f3, f4⟩ hl4 hC, w0, w1, w2, w3, fun v hv => ?_⟩
 obtain ⟨y, hy, rfl⟩ := List.mem_map.1 hv
 exact w4 y hy
theorem open_blk {r : Reach} {b0 : Nat} {v : Value} {d : DataW H} {p : List MemPlace} (hv : Value.okWide Try.prog w r b0 26 v) (h : DataW.Trod enc Try.prog w base sp held 26 v d p) :
  ∃ (A0 A1 A2 : Option Addr) (c0 c1 c2 : Nat) (last : Int) (pcs : List Int) (ops : List S62) (exits : List S65), v = .agg #[.slice A0 pcs.length c0, .slice A1 ops.length c1, .slice A2 exits.length c2, .int .i64 last] ∧ ArgB w A0 A1 A2 c0 c1 c2 pcs ops exits ∧ BlkI (blkOf pcs ops exits last) := by
 obtain ⟨cs, rfl, -⟩ := okWide_struct Try.underlying26 hv
 obtain ⟨l⟩ := cs
 obtain ⟨fuel, hf⟩ := h
 obtain ⟨xs, m', -, -, hn, hl, hx⟩ := DataW.trod_struct Try.underlying26 hf
 rw [show Try.prog.cellsOf 26 = 4 from by kernel_rfl] at hn
 simp only [Value.cells] at hn hx
 match l, hn with
 | [c0, c1, c2, c3], _ =>
 match xs, hl with
 | [y0, y1, y2, y3], _ =>
 have z1 : Try.prog.cellsOf 3 = 1 := by kernel_rfl
 have z2 : Try.prog.cellsOf 22 = 1 := by kernel_rfl
 have z3 : Try.prog.cellsOf 23 = 1 := by kernel_rfl
 have z4 : Try.prog.cellsOf 24 = 1 := by kernel_rfl
 obtain ⟨A0, p0, pcs, e0, hC0, hl0, w0⟩ := slice_of (d := Kd.int .u32) (good := fun y => 0 ≤ y ∧ y ≤ 4294967295) Try.underlying22 (by kernel_rfl) (fun _ _ _ h => by obtain ⟨z, hz, hw⟩ := rb_word Try.underlying27 h; exact ⟨z, hz, hw⟩) (cs := [c0]) (by have := hx 0 _ rfl; simpa [z1, z2, z3, z4] using this)
 obtain ⟨A1, p1, ops, e1, hC1, hl1, w1⟩ := slice_of (d := k62) (good := fun y => OpI (opOf y)) Try.underlying23 (by kernel_rfl) (fun _ _ _ h => rb_op h) (cs := [c1]) (by have := hx 1 _ rfl; simpa [z1, z2, z3, z4] using this)
 obtain ⟨A2, p2, exits, e2, hC2, hl2, w2⟩ := slice_of (d := k65) (good := fun y => ExI (exitOf y)) Try.underlying24 (by kernel_rfl) (fun _ _ _ h => rb_exit h) (cs := [c2]) (by have := hx 2 _ rfl; simpa [z1, z2, z3, z4] using this)
 obtain ⟨last, e3, w3⟩ := rb_int Try.underlying3 (c := [c3]) (by have := hx 3 _ rfl; simpa [z1, z2, z3, z4] using this)
 simp only [List.cons.injEq, and_true] at e0 e1 e2 e3
 subst e0 e1 e2 e3
 refine ⟨A0, A1, A2, p0, p1, p2, last, pcs, ops, exits, rfl, ⟨hC0, hC1, hC2, hl0, hl1, hl2⟩, ⟨fun o ho => ?_, fun e he => ?_, w3⟩⟩
 ·obtain ⟨y, hy, rfl⟩ := List.mem_map.1 ho
  exact w1 y hy
 ·obtain ⟨y, hy, rfl⟩ := List.mem_map.1 he
  exact w2 y hy
end
end Go.Proofs.Ythjgakoofmmloaa
