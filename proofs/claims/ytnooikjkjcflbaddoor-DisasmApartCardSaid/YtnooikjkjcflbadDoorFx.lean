/- Proved: a law for a region that draws its order: each operation leaves a fact that later worlds keep, and is walked once, from the facts of the operations that it waits for. Conditions: the temporaries are distinct, and no operation waits for a later one. -/
import Derived.Orders
import Derived.WalkKit
import Derived.Below
namespace Go.Proofs.YtnooikjkjcflbadDoor
open Go.RowKit
set_option linter.unusedVariables false
set_option linter.unusedSimpArgs false

def oget (o : Oper) (a : Act) : Value := (o.dst.map fun d => a.tmps.getD d undef).getD undef
def putAll (vs : Nat → Value) : Nat → List Oper → Act → Act
  | _, [], a => a
  | k, o :: l, a => putAll vs (k + 1) l (a.put o.dst (vs k))
def factB (n : Nat) (l : List Oper) : Bool :=
  l.zipIdx.all fun x => (x.1.after.toList.all fun e => !Region.binds .any e || decide (e.on < x.2)) && (x.1.dst.all fun d => decide (d < n)) && (l.zipIdx.all fun y => x.2 == y.2 || x.1.dst == none || x.1.dst != y.1.dst)
theorem factB_spec {n : Nat} {l : List Oper} (h : factB n l = true) {j : Nat} {o : Oper} (ho : l[j]? = some o) :
    (∀ e ∈ o.after, Region.binds .any e = true → e.on < j) ∧ (∀ d, o.dst = some d → d < n) ∧ ∀ (j' : Nat) (o' : Oper), l[j']? = some o' → j ≠ j' → ∀ d, o.dst = some d → o'.dst ≠ some d := by
  unfold factB at h
  rw [List.all_eq_true] at h
  have h1 := h (o, j) (List.mem_zipIdx_iff_getElem?.2 ho)
  simp only [Bool.and_eq_true, List.all_eq_true] at h1
  obtain ⟨⟨h1, h2⟩, h3⟩ := h1
  refine ⟨fun e he hb => ?_, fun d hd => ?_, fun j' o' ho' hj d hd hd' => ?_⟩
  · have := h1 e (by simpa using he)
    simpa [hb] using this
  · rw [hd] at h2
    simpa using h2
  · have := h3 (o', j') (List.mem_zipIdx_iff_getElem?.2 ho')
    simp [hj, hd, hd'] at this
theorem put_tmps (a : Act) (dst : Option Tmp) (v : Value) : (a.put dst v).tmps.size = a.tmps.size ∧ (a.put dst v).defers = a.defers := by
  cases dst <;> simp [Act.put]
theorem put_getD (a : Act) (d t : Nat) (v : Value) : (a.put (some d) v).tmps.getD t undef = if d = t ∧ d < a.tmps.size then v else a.tmps.getD t undef := by
  simp only [Act.put, Array.getD_eq_getD_getElem?, Array.getElem?_setIfInBounds]
  by_cases h : d = t
  · subst h
    by_cases h2 : d < a.tmps.size
    · simp [h2]
    · simp [h2]
  · simp [h]
theorem putAll_eq (vs : Nat → Value) (a' : Act) : ∀ (l : List Oper) (k : Nat) (a : Act), a'.defers = a.defers → a'.tmps.size = a.tmps.size →
    (∀ (j : Nat) (o : Oper) (d : Tmp), l[j]? = some o → o.dst = some d → d < a.tmps.size ∧ a'.tmps.getD d undef = vs (k + j)) →
    (∀ t, (∀ (j : Nat) (o : Oper), l[j]? = some o → o.dst ≠ some t) → a'.tmps.getD t undef = a.tmps.getD t undef) → putAll vs k l a = a' := by
  intro l
  induction l with
  | nil =>
    intro k a hd hs _ ho
    obtain ⟨T, D⟩ := a
    obtain ⟨T', D'⟩ := a'
    simp only at hd hs ho
    subst hd
    have : T = T' := by
      apply Array.ext hs.symm
      intro i h1 h2
      have := ho i (by simp)
      simpa [Array.getD_eq_getD_getElem?, h1, h2] using this.symm
    subst this
    rfl
  | cons o l ih =>
    intro k a hd hs hv ho
    have hp := put_tmps a o.dst (vs k)
    refine ih (k + 1) (a.put o.dst (vs k)) (hd.trans hp.2.symm) (hs.trans hp.1.symm) (fun j o' d h1 h2 => ?_) (fun t ht => ?_)
    · have := hv (j + 1) o' d (by simpa using h1) h2
      exact ⟨hp.1 ▸ this.1, by rw [this.2, show k + (j + 1) = k + 1 + j by omega]⟩
    · by_cases hot : o.dst = some t
      · have := hv 0 o t (by simp) hot
        rw [hot, put_getD, if_pos ⟨rfl, this.1⟩, this.2]
        rfl
      · rw [ho t (fun j o' h => by
          cases j with
          | zero => simp at h; subst h; exact hot
          | succ j => exact ht j o' (by simpa using h))]
        cases hdst : o.dst with
        | none => rfl
        | some d => rw [put_getD, if_neg (fun h => hot (by rw [hdst, h.1]))]
theorem wp_one {P : Program} {ops : Array Oper} {o : Oper} {a' : Act} {w' : World} {Q1 Q : Exit → Act → World → Prop} {K : Act → World → Prop} (hn : ∀ x a w, Q1 x a w → x = .normal ∧ a.defers = a'.defers)
    (hk : ∀ v w'', Q1 .normal (a'.put o.dst v) w'' → K (a'.put o.dst v) w'') (h : wpList P ops Q1 [o] a' w') :
    if Region.wanted o (yielded ops a'.tmps) then o.wp P a' w' K Q ∨ (o.asks P a' w' ∧ LetsOut Q) else K (a'.put o.dst undef) w' := by
  have hlo : ¬ LetsOut Q1 := fun ⟨a, w, h⟩ => by have := (hn _ _ _ h).1; cases this
  simp only [wpList] at h
  split
  · rename_i hw
    rw [if_pos hw] at h
    rcases h with h | h
    case inr => exact absurd h.2 hlo
    refine .inl ?_
    unfold Oper.wp at *
    generalize (execOp a'.eval o).run P w' = r at *
    cases r with
    | ok n w1 =>
      cases n <;> simp only [Oper.upon] at h ⊢
      case value v => exact hk v w1 h
      case skip => exact hk undef w1 h
      case defer d =>
        have := (hn _ _ _ h).2
        rw [(put_tmps _ _ _).2] at this
        have := congrArg List.length this
        simp at this
      case enter f args =>
        refine Calls.mono h fun e w2 he => ?_
        cases e with
        | returned v => exact hk v w2 he
        | panicked c => have := (hn _ _ _ he).1; cases this
        | outgrown => exact absurd he hlo
      case row row args => exact Rows.mono h fun v w2 he => hk v w2 he
    | halt x w1 =>
      cases x <;> simp only [Oper.upon] at h ⊢
      case panic v => have := (hn _ _ _ h).1; cases this
  · rename_i hw
    rw [if_neg hw] at h
    exact hk undef w' h
def factEdges (R : Nat → Value → World → Prop) (vs : Nat → Value) (w : World) : List Edge → Prop
  | [] => True
  | e :: es => (Region.binds .any e = true → R e.on (vs e.on) w) ∧ factEdges R vs w es
theorem factEdges_of {R : Nat → Value → World → Prop} {vs : Nat → Value} {w : World} : ∀ {l : List Edge}, (∀ e ∈ l, Region.binds .any e = true → R e.on (vs e.on) w) → factEdges R vs w l
  | [], _ => trivial
  | e :: l, h => ⟨h e (by simp), factEdges_of fun e' he' => h e' (by simp [he'])⟩
def factSteps (S : Nat → Oper → Prop) : Nat → List Oper → Prop
  | _, [] => True
  | k, o :: l => S k o ∧ factSteps S (k + 1) l
theorem factSteps_at {S : Nat → Oper → Prop} : ∀ {l : List Oper} {k : Nat}, factSteps S k l → ∀ (j : Nat) (o : Oper), l[j]? = some o → S (k + j) o
  | [], _, _, j, o, h => by simp at h
  | o' :: l, k, hs, 0, o, h => by simp at h; subst h; exact hs.1
  | o' :: l, k, hs, j + 1, o, h => by
    have := factSteps_at hs.2 j o (by simpa using h)
    rwa [show k + (j + 1) = k + 1 + j by omega]
theorem factSteps_of {S : Nat → Oper → Prop} : ∀ {l : List Oper} {k : Nat}, (∀ (j : Nat) (o : Oper), l[j]? = some o → S (k + j) o) → factSteps S k l
  | [], _, _ => trivial
  | o' :: l, k, h => ⟨h 0 o' (by simp), factSteps_of fun j o ho => by
    have := h (j + 1) o (by simpa using ho)
    rwa [show k + (j + 1) = k + 1 + j by omega] at this⟩
structure FInv (l : List Oper) (R : Nat → Value → World → Prop) (Le : World → World → Prop) (a : Act) (w : World) (listed : Array Bool) (a' : Act) (w' : World) : Prop where
  sz : listed.size = l.length
  df : a'.defers = a.defers
  ts : a'.tmps.size = a.tmps.size
  out : ∀ t, (∀ (j : Nat) (o : Oper), l[j]? = some o → o.dst ≠ some t) → a'.tmps.getD t undef = a.tmps.getD t undef
  fact : ∀ (j : Nat) (o : Oper), l[j]? = some o → listed.getD j false = true → R j (oget o a') w'
  bel : Le w w'
def valsOf (l : List Oper) (a' : Act) (j : Nat) : Value := (l[j]?.map fun o => oget o a').getD undef
theorem FInv.put {l : List Oper} {R : Nat → Value → World → Prop} {Le : World → World → Prop} {a a' : Act} {w w' : World} {listed : Array Bool} (hB : factB a.tmps.size l = true) (h : FInv l R Le a w listed a' w') : putAll (valsOf l a') 0 l a = a' :=
  putAll_eq _ _ l 0 a h.df h.ts (fun j o d ho hd => ⟨(factB_spec hB ho).2.1 d hd, by simp [valsOf, ho, oget, hd]⟩) h.out
theorem wp_region_facts {P : Program} {id : Nat} {Q : Exit → Act → World → Prop} {a : Act} {w : World} {l : List Oper} (hm : P.follows .mixedOrders = true) (hB : factB a.tmps.size l = true)
    (Le : World → World → Prop) (hL : ∀ {w1 w2 w3}, Le w1 w2 → Le w2 w3 → Le w1 w3) (h0 : Le w { w with drawn := w.drawn + 1 })
    (R : Nat → Value → World → Prop) (hR : ∀ j v w1 w2, R j v w1 → Le w1 w2 → R j v w2)
    (hst : ∀ (vs : Nat → Value) (w' : World), Le w w' → factSteps (fun j o => factEdges R vs w' o.after.toList →
      wpList P l.toArray (fun x a2 w2 => x = .normal ∧ a2.defers = a.defers ∧ R j (oget o a2) w2 ∧ Le w' w2) [o] (putAll vs 0 l a) w') 0 l)
    (hend : ∀ (vs : Nat → Value) (w' : World), Le w w' → factSteps (fun j _ => R j (vs j) w') 0 l → Q .normal (putAll vs 0 l a) w') : (Code.region id l.toArray true).wp P Q a w := by
  have all_of : ∀ (listed : Array Bool), listed.size = l.length → Region.ready .any l.toArray listed = [] → ∀ j, j < l.length → listed.getD j false = true := by
    intro listed hsz hr j
    induction j using Nat.strongRecOn with
    | _ j ih =>
      intro hj
      cases hc : listed.getD j false with
      | true => rfl
      | false =>
        have ho : l[j]? = some l[j] := List.getElem?_eq_getElem hj
        have : j ∈ Region.ready .any l.toArray listed := mem_ready.2 ⟨by simpa [Array.getD, hsz, hj] using hc, l[j], by simp [ho], fun e he hb => by
          have hlt := (factB_spec hB ho).1 e he hb
          exact ih _ hlt (by omega)⟩
        rw [hr] at this
        cases this
  have fin : ∀ (listed : Array Bool) (a' : Act) (w' : World), FInv l R Le a w listed a' w' → (∀ j, j < l.length → listed.getD j false = true) → Q .normal a' w' := by
    intro listed a' w' hI hall
    rw [← hI.put hB]
    refine hend _ w' hI.bel (factSteps_of fun j o ho => ?_)
    have hj : j < l.length := (List.getElem?_eq_some_iff.1 ho).1
    have := hI.fact j o ho (hall j hj)
    simpa [valsOf, ho] using this
  have main : ∀ (fuel : Nat) (listed : Array Bool) (a' : Act) (w' : World) (u : List Nat), u.length ≤ fuel → (∀ j, j < l.length → listed.getD j false = false → j ∈ u) → FInv l R Le a w listed a' w' → wpAny P .any l.toArray Q fuel listed a' w' := by
    intro fuel
    induction fuel with
    | zero =>
      intro listed a' w' u hu hm hI
      have hu0 : u = [] := List.length_eq_zero_iff.1 (by omega)
      have hall : ∀ j, j < l.length → listed.getD j false = true := fun j hj => by
        cases hc : listed.getD j false with
        | true => rfl
        | false => have := hm j hj hc; rw [hu0] at this; cases this
      refine ⟨?_, fin listed a' w' hI hall⟩
      apply List.eq_nil_iff_forall_not_mem.2
      intro j hj
      obtain ⟨h1, o, ho, _⟩ := mem_ready.1 hj
      have hjl : j < l.length := by have := (Array.getElem?_eq_some_iff.1 ho).1; simpa using this
      have h2 := hall j hjl
      have hs := hI.sz
      simp [Array.getD, hs, hjl] at h1 h2
      rw [h1] at h2
      cases h2
    | succ fuel ih =>
      intro listed a' w' u hu hm hI
      refine ⟨fun hr => fin listed a' w' hI (all_of listed hI.sz hr), fun i hi => ?_⟩
      obtain ⟨h1, o, ho, hed⟩ := mem_ready.1 hi
      have ho' : l[i]? = some o := by simpa using ho
      have hil : i < l.length := (List.getElem?_eq_some_iff.1 ho').1
      have hsz := hI.sz
      have hiu : i ∈ u := hm i hil (by simp [Array.getD, hsz, hil] at h1 ⊢; exact h1)
      have hs := factSteps_at (hst (valsOf l a') w' hI.bel) i o ho'
      rw [hI.put hB, Nat.zero_add] at hs
      have hw := hs (factEdges_of fun e he hb => by
        have hlt := (factB_spec hB ho').1 e (by simpa using he) hb
        have hoe : l[e.on]? = some l[e.on] := List.getElem?_eq_getElem (by omega)
        have := hI.fact e.on _ hoe (hed e (by simpa using he) hb)
        simpa [valsOf, hoe] using this)
      have key := wp_one (Q := Q) (K := fun a2 w2 => wpAny P .any l.toArray Q fuel (listed.setIfInBounds i true) a2 w2) (fun x a2 w2 h => ⟨h.1, h.2.1.trans hI.df.symm⟩) (fun v w2 h => by
        obtain ⟨_, _, hr, hle⟩ := h
        refine ih _ _ w2 (u.erase i) (by rw [List.length_erase_of_mem hiu]; omega) (fun j hj hc => ?_) ⟨?_, ?_, ?_, fun t ht => ?_, fun j oj hoj hc => ?_, hL hI.bel hle⟩
        · by_cases hij : i = j
          · subst hij
            simp [Array.getD, hsz, hil] at hc
          · rw [getD_set_ne false hij] at hc
            exact (List.mem_erase_of_ne (Ne.symm hij)).2 (hm j hj hc)
        · simpa using hsz
        · exact (put_tmps _ _ _).2.trans hI.df
        · exact (put_tmps _ _ _).1.trans hI.ts
        · rw [← hI.out t ht]
          cases hd : o.dst with
          | none => rfl
          | some d => rw [put_getD, if_neg (fun h => ht i o ho' (by rw [hd, h.1]))]
        · by_cases hij : i = j
          · subst hij
            rw [ho'] at hoj
            cases hoj
            exact hr
          · rw [getD_set_ne false hij] at hc
            have := hR j _ w' w2 (hI.fact j oj hoj hc) hle
            have he : oget oj (a'.put o.dst v) = oget oj a' := by
              cases hd : o.dst with
              | none => rfl
              | some d =>
                unfold oget
                cases hdj : oj.dst with
                | none => rfl
                | some dj =>
                  simp only [Option.map_some, Option.getD_some]
                  rw [put_getD, if_neg]
                  rintro ⟨rfl, _⟩
                  exact (factB_spec hB ho').2.2 j oj hoj hij _ hd hdj
            rw [he]
            exact this) hw
      unfold wpOp
      simp only [ho]
      exact key
  refine wp_region_any hm ?_
  have hf : ∀ j, (Array.replicate l.toArray.size false).getD j false = false := fun j => by
    simp only [Array.getD]
    split <;> simp
  exact main _ _ a _ (List.range l.length) (by simp) (fun j hj _ => List.mem_range.2 hj) ⟨by simp, rfl, rfl, fun _ _ => rfl, fun j o _ h => (by rw [hf j] at h; cases h), h0⟩
/-- What is known of a value: it is one; or it leads to a block of which some cells are known; or whatever later worlds keep. -/
inductive Fc where
  | is (u : Value)
  | mem (F : Nat → Value) (cs : List (Nat × Value))
  | any (p : Value → World → Prop) (h : ∀ v w1 w2, p v w1 → Below w1.heap.size w1 w2 → p v w2)
def cellsAt (w : World) (g : Nat) : List (Nat × Value) → Prop
  | [] => True
  | (o, u) :: l => w.cell? ⟨g, o, none⟩ = some u ∧ cellsAt w g l
theorem cellsAt_keep {w1 w2 : World} (hb : Below w1.heap.size w1 w2) {g : Nat} : ∀ {l : List (Nat × Value)}, cellsAt w1 g l → cellsAt w2 g l
  | [], _ => trivial
  | (o, u) :: l, h => ⟨(hb.cell (p := ⟨g, o, none⟩) (World.block_lt_of_cell? w1 ⟨g, o, none⟩ h.1)).trans h.1, cellsAt_keep hb h.2⟩
def Fc.holds : Fc → Value → World → Prop
  | .is u, v, _ => v = u
  | .mem F cs, v, w => ∃ g, v = F g ∧ cellsAt w g cs
  | .any p _, v, w => p v w
theorem Fc.keep (f : Fc) {v : Value} {w1 w2 : World} (h : f.holds v w1) (hb : Below w1.heap.size w1 w2) : f.holds v w2 := by
  cases f with
  | is u => exact h
  | mem F cs =>
    obtain ⟨g, rfl, hc⟩ := h
    exact ⟨g, rfl, cellsAt_keep hb hc⟩
  | any p hp => exact hp _ _ _ h hb
theorem fc_below {w1 w2 w3 : World} (h1 : Below w1.heap.size w1 w2) (h2 : Below w2.heap.size w2 w3) : Below w1.heap.size w1 w3 := h1.trans (h2.mono h1.size)
/-- The law at facts of these kinds, all in worlds below as the first one. -/
theorem wp_region_fc {P : Program} {id : Nat} {Q : Exit → Act → World → Prop} {a : Act} {w : World} {l : List Oper} (hm : P.follows .mixedOrders = true) (hB : factB a.tmps.size l = true) (fs : List Fc)
    (hst : ∀ (vs : Nat → Value) (w' : World), Below w.heap.size w w' → factSteps (fun j o => factEdges (fun j v w => (fs.getD j (.is undef)).holds v w) vs w' o.after.toList →
      wpList P l.toArray (fun x a2 w2 => x = .normal ∧ a2.defers = a.defers ∧ (fs.getD j (.is undef)).holds (oget o a2) w2 ∧ Below w'.heap.size w' w2) [o] (putAll vs 0 l a) w') 0 l)
    (hend : ∀ (vs : Nat → Value) (w' : World), Below w.heap.size w w' → factSteps (fun j _ => (fs.getD j (.is undef)).holds (vs j) w') 0 l → Q .normal (putAll vs 0 l a) w') : (Code.region id l.toArray true).wp P Q a w :=
  wp_region_facts hm hB (fun w1 w2 => Below w1.heap.size w1 w2) fc_below ⟨rfl, rfl, rfl, Nat.le_refl _, fun _ _ => rfl⟩ (fun j v w => (fs.getD j (.is undef)).holds v w) (fun j v w1 w2 h hb => Fc.keep _ h hb) hst hend
end Go.Proofs.YtnooikjkjcflbadDoor
