/- Contract of the sharer's find: the first operation from a place on that is alike. Conditions: the cells read as given, the list has at most a million entries. -/
import Derived.Test.YtlnbghhhifnbdaaZYCz
import Derived.Test.YtlnbghhhifnbdaaZPNumberDoesx11
import Derived.Test.YtlnbghhhifnbdaaZPNumberDoesx13
import Derived.Test.YtlnbghhhifnbdaaZYTz
import Derived.WalkMore
namespace Go.Proofs.Ytlnbghhhifnbdaa
open Go.RowKit Go.Proofs.YtlnbghhhifnbdaaW.PrintWords Go.Proofs.YtlnbghhhifnbdaaW.PrintMore Go.Proofs.Ytlnbghhhifnbdaa.PNumberDoes
set_option linter.unusedVariables false
set_option linter.unusedSimpArgs false

def nmO (tv : List Int) (o : S66) : S66 :=
 if o.f0 = 3 ∨ o.f0 = 5 ∨ o.f0 = 6 then ⟨o.f0, rd tv o.f1, rd tv o.f2, o.f3, o.f4, o.f5⟩ else if o.f0 = 4 then ⟨o.f0, rd tv o.f1, o.f2, o.f3, o.f4, o.f5⟩ else o
theorem nmO_code (tv : List Int) (o : S66) : (nmO tv o).f0 = o.f0 := by
 unfold nmO
 split
 ·rfl
 ·split <;> rfl
def turnsB (op : Int) : Bool := decide (op = 28) || (decide (op = 36) || (decide (op = 33) || (decide (op = 37) || (decide (op = 50) || (decide (op = 51) || decide (op = 53))))))
def plI (m : Int) : Int := if m = 19 then 28 else if m = 20 then 31 else if m = 21 then 32 else if m = 22 then 33 else if m = 23 then 36 else if m = 24 then 37 else if m = 25 then 30 else if m = 26 then 34 else if m = 27 then 35 else m
def alikeB (a b : S66) : Bool :=
 if a.f0 ≠ b.f0 then false else if a.f0 = 1 ∨ a.f0 = 2 then a.f3 == b.f3 else if a.f0 = 4 then (a.f3 == b.f3) && (a.f1 == b.f1)
 else if a.f0 = 3 then (plI (wrap64 a.f3) == plI (wrap64 b.f3)) && (((a.f1 == b.f1) && (a.f2 == b.f2)) || (turnsB (plI (wrap64 a.f3)) && ((a.f1 == b.f2) && (a.f2 == b.f1)))) else false
section
variable (al : S66 → S66 → Bool)
def fndF (s : Int) (o : S66) (l : List S66) : Nat × Int := l.foldl (fun p x => (p.1 + 1, if p.2 < 0 ∧ s ≤ (p.1 : Int) ∧ al x o = true then (p.1 : Int) else p.2)) (0, -1)
def fndR (o : S66) (l : List S66) : Nat × Int := l.foldl (fun p x => (p.1 + 1, if x.f0 = 5 ∧ o.f0 = 4 then -1 else if p.2 < 0 ∧ al x o = true then (p.1 : Int) else p.2)) (0, -1)
def stO (l : List S66) : Nat × Int := l.foldl (fun p x => (p.1 + 1, if x.f0 = 5 then (p.1 : Int) + 1 else p.2)) (0, 0)
theorem fndF_add (s : Int) (o x : S66) (l : List S66) : fndF al s o (l ++ [x]) = ((fndF al s o l).1 + 1, if (fndF al s o l).2 < 0 ∧ s ≤ ((fndF al s o l).1 : Int) ∧ al x o = true then ((fndF al s o l).1 : Int) else (fndF al s o l).2) := by
 unfold fndF
 rw [List.foldl_append]
 rfl
theorem fndR_add (o x : S66) (l : List S66) : fndR al o (l ++ [x]) = ((fndR al o l).1 + 1, if x.f0 = 5 ∧ o.f0 = 4 then -1 else if (fndR al o l).2 < 0 ∧ al x o = true then ((fndR al o l).1 : Int) else (fndR al o l).2) := by
 unfold fndR
 rw [List.foldl_append]
 rfl
theorem stO_add (x : S66) (l : List S66) : stO (l ++ [x]) = ((stO l).1 + 1, if x.f0 = 5 then ((stO l).1 : Int) + 1 else (stO l).2) := by
 unfold stO
 rw [List.foldl_append]
 rfl
theorem rev_ind {α : Type} {p : List α → Prop} (h0 : p []) (h1 : ∀ l x, p l → p (l ++ [x])) (l : List α) : p l := by
 have h : ∀ n, ∀ l : List α, l.length = n → p l := by
  intro n
  induction n with
  | zero => intro l hl; rw [List.length_eq_zero_iff.1 hl]; exact h0
  | succ n ih =>
   intro l hl
   have hne : l ≠ [] := fun e => by rw [e] at hl; simp at hl
   rw [← List.dropLast_concat_getLast hne]
   exact h1 _ _ (ih _ (by rw [List.length_dropLast]; omega))
 exact h _ l rfl
theorem fndF_len (s : Int) (o : S66) (l : List S66) : (fndF al s o l).1 = l.length :=
 rev_ind (p := fun l => (fndF al s o l).1 = l.length) rfl (fun l x h => by rw [fndF_add, h]; simp) l
theorem fndR_len (o : S66) (l : List S66) : (fndR al o l).1 = l.length :=
 rev_ind (p := fun l => (fndR al o l).1 = l.length) rfl (fun l x h => by rw [fndR_add, h]; simp) l
theorem stO_len (l : List S66) : (stO l).1 = l.length :=
 rev_ind (p := fun l => (stO l).1 = l.length) rfl (fun l x h => by rw [stO_add, h]; simp) l
theorem stO_le (l : List S66) : 0 ≤ (stO l).2 ∧ (stO l).2 ≤ l.length := by
 refine rev_ind (p := fun l => 0 ≤ (stO l).2 ∧ (stO l).2 ≤ l.length) ⟨Int.le_refl _, Int.le_refl _⟩ (fun l x h => ?_) l
 rw [stO_add, stO_len]
 simp only [List.length_append, List.length_cons, List.length_nil]
 by_cases hx : x.f0 = 5
 ·rw [if_pos hx]; constructor <;> omega
 ·rw [if_neg hx]; constructor <;> omega
theorem fndF_range (s : Int) (o : S66) (l : List S66) : -1 ≤ (fndF al s o l).2 ∧ (fndF al s o l).2 < l.length := by
 refine rev_ind (p := fun l => -1 ≤ (fndF al s o l).2 ∧ (fndF al s o l).2 < l.length) ⟨Int.le_refl _, (by decide : (-1 : Int) < 0)⟩ (fun l x h => ?_) l
 rw [fndF_add, fndF_len]
 simp only [List.length_append, List.length_cons, List.length_nil]
 split <;> constructor <;> omega
theorem fndF_far (s : Int) (o : S66) (l : List S66) : (l.length : Int) ≤ s → (fndF al s o l).2 = -1 := by
 refine rev_ind (p := fun l => (l.length : Int) ≤ s → (fndF al s o l).2 = -1) (fun _ => rfl) (fun l x h hl => ?_) l
 simp only [List.length_append, List.length_cons, List.length_nil] at hl
 rw [fndF_add, fndF_len, if_neg (by omega)]
 exact h (by omega)
theorem fnd_eq (o : S66) (l : List S66) : (fndR al o l).2 = (fndF al (if o.f0 = 4 then (stO l).2 else 0) o l).2 := by
 refine rev_ind (p := fun l => (fndR al o l).2 = (fndF al (if o.f0 = 4 then (stO l).2 else 0) o l).2) rfl (fun l x h => ?_) l
 rw [fndR_add, fndR_len, h, fndF_add, fndF_len, stO_add, stO_len]
 have hs := stO_le l
 by_cases h4 : o.f0 = 4
 ·simp only [h4, if_true, and_true] at h ⊢
  by_cases h5 : x.f0 = 5
  ·simp only [h5, if_true]
   rw [fndF_far al _ o l (by omega), if_neg (by omega)]
  ·simp only [h5, if_false]
   by_cases hq : (fndF al (stO l).2 o l).2 < 0 ∧ al x o = true
   ·rw [if_pos hq, if_pos ⟨hq.1, hs.2, hq.2⟩]
   ·rw [if_neg hq, if_neg fun q => hq ⟨q.1, q.2.2⟩]
 ·simp only [h4, if_false, and_false] at h ⊢
  by_cases hq : (fndF al 0 o l).2 < 0 ∧ al x o = true
  ·rw [if_pos hq, if_pos ⟨hq.1, by omega, hq.2⟩]
  ·rw [if_neg hq, if_neg fun q => hq ⟨q.1, q.2.2⟩]
def stepN (s : List S66 × List Int) (o : S66) : List S66 × List Int :=
 if 0 ≤ (fndR al (nmO s.2 o) s.1).2 then (s.1, s.2 ++ [(fndR al (nmO s.2 o) s.1).2]) else (s.1 ++ [nmO s.2 o], s.2 ++ [(s.1.length : Int)])
def runN (ops : List S66) : List S66 × List Int := ops.foldl (stepN al) ([], [])
theorem runN_add (ops : List S66) (o : S66) : runN al (ops ++ [o]) = stepN al (runN al ops) o := by
 unfold runN
 rw [List.foldl_append]
 rfl
theorem runN_take (ops : List S66) (k : Nat) (h : k < ops.length) : runN al (ops.take (k + 1)) = stepN al (runN al (ops.take k)) ops[k] := by
 rw [List.take_succ_eq_append_getElem h, runN_add]
theorem runN_len (ops : List S66) : (runN al ops).2.length = ops.length ∧ (runN al ops).1.length ≤ ops.length ∧ ∀ x ∈ (runN al ops).2, 0 ≤ x ∧ x < (runN al ops).1.length := by
 refine rev_ind (p := fun ops => (runN al ops).2.length = ops.length ∧ (runN al ops).1.length ≤ ops.length ∧ ∀ x ∈ (runN al ops).2, 0 ≤ x ∧ x < (runN al ops).1.length) ⟨rfl, Nat.le_refl _, fun x h => absurd h List.not_mem_nil⟩ (fun l x h => ?_) ops
 obtain ⟨h1, h2, h3⟩ := h
 rw [runN_add]
 unfold stepN
 split
 ·rename_i hf
  refine ⟨by simp [h1], by simp; omega, fun y hy => ?_⟩
  rcases List.mem_append.1 hy with q | q
  ·exact h3 y q
  ·rw [List.mem_singleton.1 q]
   refine ⟨hf, ?_⟩
   have := fnd_eq al (nmO (runN al l).2 x) (runN al l).1
   rw [this]
   exact (fndF_range al _ _ _).2
 ·refine ⟨by simp [h1], by simp; omega, fun y hy => ?_⟩
  simp only [List.length_append, List.length_cons, List.length_nil]
  rcases List.mem_append.1 hy with q | q
  ·have := h3 y q
   omega
  ·rw [List.mem_singleton.1 q]
   omega
end
def exN (tv : List Int) (x : S72) : S72 := ⟨x.f0, x.f1, if x.f2 = -1 then -1 else rd tv x.f2, x.f3, x.f4.map (fun v => ⟨v.f0, rd tv v.f1⟩)⟩
def numB (al : S66 → S66 → Bool) (B : BlkV) : BlkV := ⟨B.pcs, (runN al B.ops).1, B.exits.map (exN (runN al B.ops).2), B.last⟩
structure RightN (B : BlkV) : Prop where
 code : ∀ (k : Nat) (o : S66), B.ops[k]? = some o → 1 ≤ o.f0 ∧ o.f0 ≤ 6
 ops : ∀ (k : Nat) (o : S66), B.ops[k]? = some o → (o.f0 = 3 ∨ o.f0 = 4 ∨ o.f0 = 5 ∨ o.f0 = 6 → 0 ≤ o.f1 ∧ o.f1 < (k : Int)) ∧ (o.f0 = 3 ∨ o.f0 = 5 ∨ o.f0 = 6 → 0 ≤ o.f2 ∧ o.f2 < (k : Int))
 tv : ∀ (n : Nat) (x : S72), B.exits[n]? = some x → x.f2 = -1 ∨ (0 ≤ x.f2 ∧ x.f2 < (B.ops.length : Int))
 map : ∀ (n : Nat) (x : S72), B.exits[n]? = some x → ∀ v ∈ x.f4, 0 ≤ v.f1 ∧ v.f1 < (B.ops.length : Int)
 lo : B.ops.length ≤ 512
 le : B.exits.length ≤ 128
 lp : B.pcs.length ≤ 32
theorem valB_lt {B : BlkV} {n k : Int} (h : valB B n k = true) : 0 ≤ n ∧ n < k ∧ n < (B.ops.length : Int) := by
 unfold valB at h
 simp only [Bool.and_eq_true, decide_eq_true_eq] at h
 exact ⟨h.1, h.2.1, h.2.2.1⟩
theorem rightN_of {B : BlkV} (h : checkB B = 0) : RightN B := by
 unfold checkB at h
 split at h
 ·exact absurd h (by decide)
 rename_i hsz
 split at h
 case isFalse => exact absurd h (by decide)
 rename_i hr
 unfold rightB at hr
 simp only [Bool.and_eq_true, List.all_eq_true, List.mem_range] at hr
 obtain ⟨ho, hl, -⟩ := hr
 have hx : ∀ (n : Nat) (x : S72), B.exits[n]? = some x → exitB B (n : Int) (B.ops.length : Int) = true ∧ qO B.exits (n : Int) = x := by
  intro n x hx
  obtain ⟨hn, he⟩ := List.getElem?_eq_some_iff.1 hx
  have := hl n hn
  unfold leavesB at this
  rw [Bool.and_eq_true] at this
  exact ⟨this.1, by simp [qO, hn, he]⟩
 refine ⟨fun k o hk => ?_, fun k o hk => ?_, fun n x hn => ?_, fun n x hn v hv => ?_, by omega, by omega, by omega⟩
 ·obtain ⟨hkl, he⟩ := List.getElem?_eq_some_iff.1 hk
  have hop := ho k hkl
  have hq : qI B.ops (k : Int) = o := by simp [qI, hkl, he]
  unfold opB at hop
  rw [hq, Bool.and_eq_true] at hop
  have hk := hop.1
  unfold kindB at hk
  by_cases c1 : o.f0 = 1
  ·omega
  by_cases c2 : o.f0 = 2
  ·omega
  by_cases c3 : o.f0 = 3
  ·omega
  by_cases c4 : o.f0 = 4
  ·omega
  by_cases c5 : o.f0 = 5
  ·omega
  by_cases c6 : o.f0 = 6
  ·omega
  rw [if_neg c1, if_neg c2, if_neg c3, if_neg c4, if_neg c5, if_neg c6] at hk
  cases hk
 ·obtain ⟨hkl, he⟩ := List.getElem?_eq_some_iff.1 hk
  have hop := ho k hkl
  have hq : qI B.ops (k : Int) = o := by simp [qI, hkl, he]
  unfold opB at hop
  rw [hq] at hop
  simp only [Bool.and_eq_true] at hop
  have hu := hop.2.2.1
  rw [List.all_eq_true] at hu
  constructor
  ·intro hc
   have := hu o.f1 (by unfold usesL; split <;> (first | (simp; done) | (rename_i hn; rw [if_pos (by omega)]; simp)))
   have := valB_lt this
   exact ⟨this.1, this.2.1⟩
  ·intro hc
   have := hu o.f2 (by unfold usesL; rw [if_pos hc]; simp)
   have := valB_lt this
   exact ⟨this.1, this.2.1⟩
 ·obtain ⟨hb, hq⟩ := hx n x hn
  unfold exitB at hb
  rw [hq] at hb
  simp only [Bool.and_eq_true, Bool.or_eq_true, decide_eq_true_eq] at hb
  rcases hb.2.2.1 with h | h
  ·exact .inl h
  ·have := valB_lt h
   exact .inr ⟨this.1, this.2.1⟩
 ·obtain ⟨hb, hq⟩ := hx n x hn
  unfold exitB at hb
  rw [hq] at hb
  simp only [Bool.and_eq_true, Bool.not_eq_true'] at hb
  have h4 := hb.2.2.2
  rw [List.any_eq_false] at h4
  have := h4 v hv
  unfold badB at this
  have hv : valB B v.f1 (B.ops.length : Int) = true := by simpa using this
  have := valB_lt hv
  exact ⟨this.1, this.2.1⟩
end Go.Proofs.Ytlnbghhhifnbdaa

namespace Go.Proofs.Ytlnbghhhifnbdaa
open Go.RowKit Go.Proofs.YtlnbghhhifnbdaaW.PrintWords Go.Proofs.YtlnbghhhifnbdaaW.PrintLast Go.Proofs.YtlnbghhhifnbdaaW.PrintMore Go.Proofs.Ytlnbghhhifnbdaa.PNumberDoes
set_option linter.unusedVariables false
set_option linter.unusedSimpArgs false

theorem plain_f (n : Int) : number_plain.f n = some (plI (wrap64 n)) := by
 unfold number_plain.f alu_Plain.f alu_Has.f plI
 generalize wrap64 n = m
 by_cases h1 : m = 19
 ·simp [h1]
 by_cases h2 : m = 20
 ·simp [h2]
 by_cases h3 : m = 21
 ·simp [h3]
 by_cases h4 : m = 22
 ·simp [h4]
 by_cases h5 : m = 23
 ·simp [h5]
 by_cases h6 : m = 24
 ·simp [h6]
 by_cases h7 : m = 25
 ·simp [h7]
 by_cases h8 : m = 26
 ·simp [h8]
 by_cases h9 : m = 27
 ·simp [h9]
 rw [if_neg h1, if_neg h2, if_neg h3, if_neg h4, if_neg h5, if_neg h6, if_neg h7, if_neg h8, if_neg h9, if_neg h1, if_neg h2, if_neg h3, if_neg h4, if_neg h5, if_neg h6, if_neg h7, if_neg h8, if_neg h9]
 by_cases ha : m ≥ 19
 ·by_cases hb : m ≤ 37
  ·rw [if_pos ha, decide_eq_true hb, Option.bind_some, if_pos rfl, Option.bind_some, if_neg (by omega)]
  ·rw [if_pos ha, decide_eq_false hb, Option.bind_some, if_neg (by decide), Option.bind_some, if_pos rfl]
 ·rw [if_neg ha, Option.bind_some, if_neg (by decide), Option.bind_some, if_pos rfl]
theorem turns_f (n : Int) : number_turns.f n = some (turnsB n) := by
 unfold number_turns.f turnsB
 by_cases h1 : n = 28
 ·simp [h1]
 by_cases h2 : n = 36
 ·simp [h2]
 by_cases h3 : n = 33
 ·simp [h3]
 by_cases h4 : n = 37
 ·simp [h4]
 by_cases h5 : n = 50
 ·simp [h5]
 by_cases h6 : n = 51
 ·simp [h6]
 by_cases h7 : n = 53
 ·simp [h7]
 simp [h1, h2, h3, h4, h5, h6, h7]
theorem rturns_f (n : Int) : mimesisref29_turns.f n = some (turnsB n) := by
 unfold mimesisref29_turns.f turnsB
 by_cases h1 : n = 28
 ·simp [h1]
 by_cases h2 : n = 36
 ·simp [h2]
 by_cases h3 : n = 33
 ·simp [h3]
 by_cases h4 : n = 37
 ·simp [h4]
 by_cases h5 : n = 50
 ·simp [h5]
 by_cases h6 : n = 51
 ·simp [h6]
 by_cases h7 : n = 53
 ·simp [h7]
 simp [h1, h2, h3, h4, h5, h6, h7]
theorem rplain_f (m : Int) : mimesisref28_Plain.f m = some (plI m) := by
 unfold mimesisref28_Plain.f mimesisref07_Plain.f mimesisref07_Has.f plI
 by_cases h1 : m = 19
 ·subst h1; (first | rfl | decide +kernel | simp [rd, wrap64])
 by_cases h2 : m = 20
 ·subst h2; (first | rfl | decide +kernel | simp [rd, wrap64])
 by_cases h3 : m = 21
 ·subst h3; (first | rfl | decide +kernel | simp [rd, wrap64])
 by_cases h4 : m = 22
 ·subst h4; (first | rfl | decide +kernel | simp [rd, wrap64])
 by_cases h5 : m = 23
 ·subst h5; (first | rfl | decide +kernel | simp [rd, wrap64])
 by_cases h6 : m = 24
 ·subst h6; (first | rfl | decide +kernel | simp [rd, wrap64])
 by_cases h7 : m = 25
 ·subst h7; (first | rfl | decide +kernel | simp [rd, wrap64])
 by_cases h8 : m = 26
 ·subst h8; (first | rfl | decide +kernel | simp [rd, wrap64])
 by_cases h9 : m = 27
 ·subst h9; (first | rfl | decide +kernel | simp [rd, wrap64])
 rw [if_neg h1, if_neg h2, if_neg h3, if_neg h4, if_neg h5, if_neg h6, if_neg h7, if_neg h8, if_neg h9]
 by_cases ha : m ≥ 19
 ·by_cases hb : m ≤ 37
  ·rw [if_pos ha, decide_eq_true hb, Option.bind_some, if_pos rfl, Option.bind_some, if_pos rfl, if_neg (by omega), Option.bind_some]
  ·rw [if_pos ha, decide_eq_false hb, Option.bind_some, if_neg (by decide)]
 ·rw [if_neg ha, Option.bind_some, if_neg (by decide)]
theorem alike_f (k : Nat) (a b : S66) : number_Alike.f (k + 1) a.f0 a.f1 a.f2 a.f3 a.f4 a.f5 b.f0 b.f1 b.f2 b.f3 b.f4 b.f5 = some (alikeB a b) := by
 unfold number_Alike.f alikeB number_Alike.j0
 simp only [plain_f, turns_f, Option.bind_some]
 generalize plI (wrap64 a.f3) = pa
 generalize plI (wrap64 b.f3) = pb
 generalize turnsB pa = tb
 by_cases h : a.f0 = b.f0
 case neg => rw [if_neg h, if_pos h]
 rw [if_pos h, if_neg (not_not_intro h)]
 by_cases h1 : a.f0 = 1
 ·rw [if_pos h1, beq_iff_eq.2 h1, if_pos rfl, if_pos (Or.inl h1)]
 rw [if_neg h1]
 by_cases h2 : a.f0 = 2
 ·rw [beq_iff_eq.2 h2, if_pos rfl, if_pos (Or.inr h2)]
 rw [show (a.f0 == 2) = false by simp [h2], if_neg (by decide : ¬ (false = true)), if_neg (by omega : ¬ (a.f0 = 1 ∨ a.f0 = 2))]
 by_cases h4 : a.f0 = 4
 ·rw [if_pos h4, if_pos h4]
  by_cases e : a.f3 = b.f3 <;> simp [e]
 rw [if_neg h4, if_neg h4]
 by_cases h3 : a.f0 = 3
 case neg => rw [if_neg h3, if_neg h3]
 rw [if_pos h3, if_pos h3]
 have q1 : (a.f1 = b.f1) = ((a.f1 == b.f1) = true) := propext beq_iff_eq.symm
 have q2 : (a.f2 = b.f2) = ((a.f2 == b.f2) = true) := propext beq_iff_eq.symm
 have q3 : (a.f1 = b.f2) = ((a.f1 == b.f2) = true) := propext beq_iff_eq.symm
 have q4 : (pa = pb) = ((pa == pb) = true) := propext beq_iff_eq.symm
 simp only [q1, q2, q3, q4]
 generalize (a.f1 == b.f1) = x1
 generalize (a.f2 == b.f2) = x2
 generalize (a.f1 == b.f2) = x3
 generalize (a.f2 == b.f1) = x4
 generalize (pa == pb) = x5
 cases x1 <;> cases x2 <;> cases x3 <;> cases x4 <;> cases x5 <;> cases tb <;> rfl
theorem ralike_f (k : Nat) (a b : S59) : mimesisref29_Alike.f (k + 1) a.f0 a.f1 a.f2 a.f3 a.f4 a.f5 b.f0 b.f1 b.f2 b.f3 b.f4 b.f5 = some (alikeB (opOf a) (opOf b)) := by
 unfold mimesisref29_Alike.f alikeB mimesisref29_Alike.j0 opOf
 simp only [rplain_f, rturns_f, Option.bind_some]
 generalize plI (wrap64 a.f3) = pa
 generalize plI (wrap64 b.f3) = pb
 generalize turnsB pa = tb
 by_cases h : a.f0 = b.f0
 case neg => rw [if_neg h, if_pos h]; (first | rw [if_pos rfl] | rw [if_pos trivial])
 rw [if_pos h, if_neg (not_not_intro h)]
 by_cases h0 : a.f0 < 1
 ·rw [if_pos h0]; (first | rw [if_pos rfl] | rw [if_pos trivial]); rw [if_neg (by omega), if_neg (by omega), if_neg (by omega)]
 rw [if_neg h0]
 by_cases h5 : a.f0 > 4
 ·rw [decide_eq_true h5]; (first | rw [if_pos rfl] | rw [if_pos trivial]); rw [if_neg (by omega), if_neg (by omega), if_neg (by omega)]
 rw [decide_eq_false h5, if_neg (by decide : ¬ (false = true))]
 by_cases h2 : a.f0 ≤ 2
 ·rw [if_pos h2, if_pos (by omega)]
 rw [if_neg h2, if_neg (by omega : ¬ (a.f0 = 1 ∨ a.f0 = 2))]
 by_cases h4 : a.f0 = 4
 ·rw [if_pos h4, if_pos h4]
  by_cases e : a.f3 = b.f3 <;> simp [e]
 rw [if_neg h4, if_neg h4, if_pos (by omega : a.f0 = 3)]
 have q1 : (a.f1 = b.f1) = ((a.f1 == b.f1) = true) := propext beq_iff_eq.symm
 have q2 : (a.f2 = b.f2) = ((a.f2 == b.f2) = true) := propext beq_iff_eq.symm
 have q3 : (a.f1 = b.f2) = ((a.f1 == b.f2) = true) := propext beq_iff_eq.symm
 have q4 : (pa = pb) = ((pa == pb) = true) := propext beq_iff_eq.symm
 simp only [q1, q2, q3, q4]
 generalize (a.f1 == b.f1) = x1
 generalize (a.f2 == b.f2) = x2
 generalize (a.f1 == b.f2) = x3
 generalize (a.f2 == b.f1) = x4
 generalize (pa == pb) = x5
 cases x1 <;> cases x2 <;> cases x3 <;> cases x4 <;> cases x5 <;> cases tb <;> rfl
theorem rfind_l0 (o : S59) (l : List S59) (hl : l.length ≤ 700) : ∀ (m i k : Nat), i + m = l.length → 2 * m + 1 < k →
  mimesisref29_find.l0 k l (fndR alikeB (opOf o) ((l.map opOf).take i)).2 (i : Int) o.f0 o.f1 o.f2 o.f3 o.f4 o.f5 = some (fndR alikeB (opOf o) (l.map opOf)).2 := by
 intro m
 induction m with
 | zero =>
  intro i k hi hk
  obtain ⟨k, rfl⟩ : ∃ q, k = q + 1 := ⟨k - 1, by omega⟩
  rw [mimesisref29_find.l0, if_neg (by omega), List.take_of_length_le (by simp; omega)]
 | succ m ih =>
  intro i k hi hk
  obtain ⟨k, rfl⟩ : ∃ q, k = q + 3 := ⟨k - 3, by omega⟩
  have hlt : i < l.length := by omega
  have hq : ql l (i : Int) = l[i] := by simp [ql, hlt]
  have hn := ih (i + 1) (k + 1) (by omega) (by omega)
  rw [take_map opOf l i hlt, fndR_add, fndR_len, List.length_take, List.length_map, Nat.min_eq_left (by omega)] at hn
  have e0 : (opOf l[i]).f0 = l[i].f0 := rfl
  have e1 : (opOf o).f0 = o.f0 := rfl
  rw [e0, e1] at hn
  generalize hF : (fndR alikeB (opOf o) ((l.map opOf).take i)).2 = F at *
  rw [mimesisref29_find.l0, if_pos (by omega)]
  by_cases hf : F < 0
  ·rw [if_pos hf, if_pos (by omega), hq, ralike_f, Option.bind_some, mimesisref29_find.j1, hq, w64n i (by omega)]
   cases hA : alikeB (opOf l[i]) (opOf o)
   ·rw [if_neg (by decide), if_pos (by omega), if_pos (by omega)]
    rw [hA] at hn
    by_cases h5 : l[i].f0 = 5
    ·by_cases h4 : o.f0 = 4
     ·rw [if_pos h5, if_pos h4]
      rw [if_pos ⟨h5, h4⟩] at hn
      exact hn
     ·rw [if_pos h5, if_neg h4]
      rw [if_neg (fun q => h4 q.2), if_neg (fun q => by cases q.2)] at hn
      exact hn
    ·rw [if_neg h5]
     rw [if_neg (fun q => h5 q.1), if_neg (fun q => by cases q.2)] at hn
     exact hn
   ·rw [if_pos rfl, if_pos (by omega), if_pos (by omega)]
    rw [hA] at hn
    by_cases h5 : l[i].f0 = 5
    ·by_cases h4 : o.f0 = 4
     ·rw [if_pos h5, if_pos h4]
      rw [if_pos ⟨h5, h4⟩] at hn
      exact hn
     ·rw [if_pos h5, if_neg h4]
      rw [if_neg (fun q => h4 q.2), if_pos ⟨hf, rfl⟩] at hn
      exact hn
    ·rw [if_neg h5]
     rw [if_neg (fun q => h5 q.1), if_pos ⟨hf, rfl⟩] at hn
     exact hn
  ·rw [if_neg hf, mimesisref29_find.j1, hq, w64n i (by omega), if_neg (by decide), if_pos (by omega), if_pos (by omega)]
   by_cases h5 : l[i].f0 = 5
   ·by_cases h4 : o.f0 = 4
    ·rw [if_pos h5, if_pos h4]
     rw [if_pos ⟨h5, h4⟩] at hn
     exact hn
    ·rw [if_pos h5, if_neg h4]
     rw [if_neg (fun q => h4 q.2), if_neg (fun q => hf q.1)] at hn
     exact hn
   ·rw [if_neg h5]
    rw [if_neg (fun q => h5 q.1), if_neg (fun q => hf q.1)] at hn
    exact hn
theorem rfind_f (o : S59) (l : List S59) (hl : l.length ≤ 700) : mimesisref29_find.f 1500 l o.f0 o.f1 o.f2 o.f3 o.f4 o.f5 = some (fndR alikeB (opOf o) (l.map opOf)).2 := by
 have := rfind_l0 o l hl l.length 0 1500 (by omega) (by omega)
 exact this
theorem alike_c (a b : S66) (w : World) : Calls Try.prog 109 #[.agg #[.int .i64 a.f0, .int .i64 a.f1, .int .i64 a.f2, .int .u32 a.f3, .int .i64 a.f4, .int .i64 a.f5], .agg #[.int .i64 b.f0, .int .i64 b.f1, .int .i64 b.f2, .int .u32 b.f3, .int .i64 b.f4, .int .i64 b.f5]] w fun e w' => e = .returned (.bool (alikeB a b)) ∧ Below w.heap.size w w' :=
 number_Alike.calls 1 _ _ _ _ _ _ _ _ _ _ _ _ _ w (alike_f 0 a b)
theorem rfind_c (A : Option Addr) (c : Nat) (l : List S59) (o : S59) (hl : l.length ≤ 700) (hc : l.length ≤ c) (w : World) (hC : k59.C w A l.length l) :
  Calls Try.prog 63 #[.slice A l.length c, .agg #[.int .i64 o.f0, .int .i64 o.f1, .int .i64 o.f2, .int .u32 o.f3, .int .i64 o.f4, .int .i64 o.f5]] w fun e w' => e = .returned (.int .i64 (fndR alikeB (opOf o) (l.map opOf)).2) ∧ Below w.heap.size w w' :=
 mimesisref29_find.calls 1500 A c l _ _ _ _ _ _ _ w hC hc (rfind_f o l hl)
end Go.Proofs.Ytlnbghhhifnbdaa

namespace Go.Proofs.Ytlnbghhhifnbdaa
open Go.RowKit Go.Proofs.YtlnbghhhifnbdaaW.PrintWords Go.Proofs.YtlnbghhhifnbdaaW.PrintLast Go.Proofs.YtlnbghhhifnbdaaW.PrintMore Go.Proofs.Ytlnbghhhifnbdaa.PNumberDoes
set_option linter.unusedVariables false
set_option linter.unusedSimpArgs false

theorem fndF_stay (s : Int) (o : S66) (l1 l2 : List S66) (h : 0 ≤ (fndF alikeB s o l1).2) : (fndF alikeB s o (l1 ++ l2)).2 = (fndF alikeB s o l1).2 := by
 refine rev_ind (p := fun l2 => (fndF alikeB s o (l1 ++ l2)).2 = (fndF alikeB s o l1).2) (by rw [List.append_nil]) (fun l x ih => ?_) l2
 rw [← List.append_assoc, fndF_add, ih, if_neg (by omega)]
theorem fndF_miss (s : Int) (o : S66) (l : List S66) (k : Nat) (hk : k < l.length) (h0 : (fndF alikeB s o (l.take k)).2 = -1) (h : (k : Int) < s ∨ alikeB l[k] o = false) : (fndF alikeB s o (l.take (k + 1))).2 = -1 := by
 rw [List.take_succ_eq_append_getElem hk, fndF_add, fndF_len, h0, if_neg]
 rintro ⟨-, h1, h2⟩
 rw [List.length_take, Nat.min_eq_left (by omega)] at h1
 rcases h with h | h
 ·omega
 ·rw [h] at h2; cases h2
theorem fndF_hit (s : Int) (o : S66) (l : List S66) (k : Nat) (hk : k < l.length) (h0 : (fndF alikeB s o (l.take k)).2 = -1) (h1 : s ≤ (k : Int)) (h2 : alikeB l[k] o = true) : (fndF alikeB s o l).2 = (k : Int) := by
 have e : (fndF alikeB s o (l.take (k + 1))).2 = (k : Int) := by
  rw [List.take_succ_eq_append_getElem hk, fndF_add, fndF_len, h0, List.length_take, Nat.min_eq_left (by omega), if_pos ⟨by decide, h1, h2⟩]
 rw [← e]
 conv => lhs; rw [← List.take_append_drop (k + 1) l]
 exact fndF_stay s o _ _ (by rw [e]; omega)
set_option maxHeartbeats 8000000 in
set_option maxRecDepth 100000 in
theorem shfind_c (l : List S66) (hl : l.length ≤ 1000000) (o : S66) (st : Int) (gs gc : Nat) (A : Option Addr) (c : Nat) (w : World) (c0 : w.cell? ⟨gs, 0, none⟩ = some (.pointer (some ⟨gc, 0, none⟩))) (c2 : w.cell? ⟨gs, 2, none⟩ = some (.int .i64 st)) (c1 : w.cell? ⟨gc, 1, none⟩ = some (.slice A l.length c)) (hC : k66.C w A l.length l) :
  Calls Try.prog 92 #[.pointer (some ⟨gs, 0, none⟩), .agg #[.int .i64 o.f0, .int .i64 o.f1, .int .i64 o.f2, .int .u32 o.f3, .int .i64 o.f4, .int .i64 o.f5]] w fun e w' => e = .returned (.int .i64 (fndF alikeB (if o.f0 = 4 then st else 0) o l).2) ∧ Below w.heap.size w w' := by
 have hg : gs < w.heap.size := World.block_lt_of_cell? w ⟨gs, 0, none⟩ c0
 have hgc : gc < w.heap.size := World.block_lt_of_cell? w ⟨gc, 1, none⟩ c1
 have hne0 : ¬ gs = w.heap.size := by omega
 have hne1 : ¬ gc = w.heap.size := by omega
 have HC := Lib.hid hC
 have HA := Lib.hid (fun a v => alike_c a o v)
 clear hC
 obtain ⟨s, hs⟩ : ∃ s, s = (if o.f0 = 4 then st else 0) := ⟨_, rfl⟩
 rw [← hs]
 have hcase : (o.f0 = 4 ∧ s = st) ∨ (¬ o.f0 = 4 ∧ s = 0) := by
  by_cases h : o.f0 = 4
  ·exact .inl ⟨h, by rw [hs, if_pos h]⟩
  ·exact .inr ⟨h, by rw [hs, if_neg h]⟩
 clear hs
 rcases hcase with ⟨h4, rfl⟩ | ⟨h4, rfl⟩
 ·have t4 : (o.f0 == 4) = true := beq_iff_eq.2 h4
  clear h4
  go_enter Try.func92, Try.ntmps92
  go_wp2
  go_step3
  go_wp2
  go_step3
  go_wp2
  go_loopw [6, 23] (fun vo i wr => ∃ k : Nat, k ≤ l.length ∧ vo = .int .i64 (-1) ∧ i = .int .i64 k ∧ Hid ((fndF alikeB s o (l.take k)).2 = -1) ∧ Hid (Below w.heap.size w wr) ∧ wr.cell? ⟨w.heap.size, 0, none⟩ = some (.int .i64 o.f0) ∧ wr.cell? ⟨w.heap.size, 1, none⟩ = some (.int .i64 o.f1) ∧ wr.cell? ⟨w.heap.size, 2, none⟩ = some (.int .i64 o.f2) ∧ wr.cell? ⟨w.heap.size, 3, none⟩ = some (.int .u32 o.f3) ∧ wr.cell? ⟨w.heap.size, 4, none⟩ = some (.int .i64 o.f4) ∧ wr.cell? ⟨w.heap.size, 5, none⟩ = some (.int .i64 o.f5)) (fun _ i _ => l.length - (intOf i).toNat)
  case atStart => exact ⟨0, Nat.zero_le _, rfl, rfl, Lib.hid rfl, Lib.hid (bal (Below.refl _ _) _), by simp [go_sem], by simp [go_sem], by simp [go_sem], by simp [go_sem], by simp [go_sem], by simp [go_sem]⟩
  case round =>
   obtain ⟨k, hk, rfl, rfl, HN, HB, y0, y1, y2, y3, y4, y5⟩ := hrel
   have z0 := cellk HB.out c0
   have z1 := cellk HB.out c1
   by_cases hlt : k < l.length
   ·obtain ⟨ad, rfl, d0, d1, d2, d3, d4, d5⟩ := at_T66 (Kd.qp HC.out HB.out) (k : Int) (by omega) (by omega)
    have hq : qI l (k : Int) = l[k] := by simp [qI, hlt]
    have HM := Lib.hid (fndF_miss s o l k hlt HN.out)
    have HH := Lib.hid (fndF_hit s o l k hlt HN.out)
    rw [← hq] at HM HH
    simp only [Int.toNat_natCast] at d0 d1 d2 d3 d4 d5
    clear hq
    generalize qI l (k : Int) = q at *
    by_cases hks : (k : Int) < s
    ·have tk : decide ((k : Int) < s) = true := decide_eq_true hks
     have HM' := Lib.hid (HM.out (.inl hks))
     clear HM HH
     go_wp2
     refine qG (by kernel_rfl) (by kernel_rfl) ?_
     intro T _ F hF hS
     have g0 := fcell hF y0
     have g1 := fcell hF y1
     have g2 := fcell hF y2
     have g3 := fcell hF y3
     have g4 := fcell hF y4
     have g5 := fcell hF y5
     have HRF : ∀ s, Hid (Below w.heap.size w (F s)) := fun s => Lib.hid (bthen HB.out (hF s))
     repeat (go_big_quiet_step (fail))
     refine wpQuiet_nil ?_
     intro w2 hw2
     obtain ⟨s2, rfl⟩ := hw2
     have HB2 := Lib.hid (HRF s2).out
     replace g0 := g0 s2
     replace g1 := g1 s2
     replace g2 := g2 s2
     replace g3 := g3 s2
     replace g4 := g4 s2
     replace g5 := g5 s2
     go_wp2
     go_roundw
     case rel => exact ⟨k + 1, by omega, rfl, by go_num, HM', HB2, g0, g1, g2, g3, g4, g5⟩
     case measure => simp [intOf]; omega
    have tk : decide ((k : Int) < s) = false := decide_eq_false hks
    have HQ := Lib.hid (fun v => HA.out q v)
    go_wp2
    refine qG (by kernel_rfl) (by kernel_rfl) ?_
    intro T _ F hF hS
    have e0 := fcell hF z0
    have e1 := fcell hF z1
    have x0 := fun s => ((hF s).cell (World.block_lt_of_cell? _ _ d0)).trans d0
    have x1 := fun s => ((hF s).cell (World.block_lt_of_cell? _ _ d1)).trans d1
    have x2 := fun s => ((hF s).cell (World.block_lt_of_cell? _ _ d2)).trans d2
    have x3 := fun s => ((hF s).cell (World.block_lt_of_cell? _ _ d3)).trans d3
    have x4 := fun s => ((hF s).cell (World.block_lt_of_cell? _ _ d4)).trans d4
    have x5 := fun s => ((hF s).cell (World.block_lt_of_cell? _ _ d5)).trans d5
    have g0 := fcell hF y0
    have g1 := fcell hF y1
    have g2 := fcell hF y2
    have g3 := fcell hF y3
    have g4 := fcell hF y4
    have g5 := fcell hF y5
    have HRF : ∀ s, Hid (Below w.heap.size w (F s)) := fun s => Lib.hid (bthen HB.out (hF s))
    rcases Bool.eq_false_or_eq_true (alikeB q o) with hA | hA
    ·have HH' := Lib.hid (HH.out (by omega) hA)
     rw [hA] at HQ
     clear HM HH hA HA
     repeat (go_big_quiet_step (first | (go_at_call 109; exact qbelow hS (HQ.out _)) | fail))
     refine wpQuiet_nil ?_
     intro w2 hw2
     obtain ⟨s2, rfl⟩ := hw2
     have HB2 := Lib.hid (HRF s2).out
     go_wp2
     rw [Exit.noGoto_ret]
     go_ret
     exact ⟨by rw [HH'.out]; rfl, HB2.out⟩
    ·have HM' := Lib.hid (HM.out (.inr hA))
     rw [hA] at HQ
     clear HM HH hA HA
     repeat (go_big_quiet_step (first | (go_at_call 109; exact qbelow hS (HQ.out _)) | fail))
     refine wpQuiet_nil ?_
     intro w2 hw2
     obtain ⟨s2, rfl⟩ := hw2
     have HB2 := Lib.hid (HRF s2).out
     replace g0 := g0 s2
     replace g1 := g1 s2
     replace g2 := g2 s2
     replace g3 := g3 s2
     replace g4 := g4 s2
     replace g5 := g5 s2
     go_wp2
     go_roundw
     case rel => exact ⟨k + 1, by omega, rfl, by go_num, HM', HB2, g0, g1, g2, g3, g4, g5⟩
     case measure => simp [intOf]; omega
   ·have hke : k = l.length := by omega
    subst hke
    have hN := HN.out
    rw [List.take_length] at hN
    have HN' := Lib.hid hN
    clear hN
    go_wp2
    (try rw [Exit.noGoto_ret])
    go_ret
    exact ⟨by rw [HN'.out]; rfl, HB.out⟩
 ·have t4 : (o.f0 == 4) = false := beq_eq_false_iff_ne.2 h4
  clear h4
  go_enter Try.func92, Try.ntmps92
  go_wp2
  go_step3
  go_wp2
  go_step3
  go_wp2
  go_loopw [6, 23] (fun vo i wr => ∃ k : Nat, k ≤ l.length ∧ vo = .int .i64 (-1) ∧ i = .int .i64 k ∧ Hid ((fndF alikeB 0 o (l.take k)).2 = -1) ∧ Hid (Below w.heap.size w wr) ∧ wr.cell? ⟨w.heap.size, 0, none⟩ = some (.int .i64 o.f0) ∧ wr.cell? ⟨w.heap.size, 1, none⟩ = some (.int .i64 o.f1) ∧ wr.cell? ⟨w.heap.size, 2, none⟩ = some (.int .i64 o.f2) ∧ wr.cell? ⟨w.heap.size, 3, none⟩ = some (.int .u32 o.f3) ∧ wr.cell? ⟨w.heap.size, 4, none⟩ = some (.int .i64 o.f4) ∧ wr.cell? ⟨w.heap.size, 5, none⟩ = some (.int .i64 o.f5)) (fun _ i _ => l.length - (intOf i).toNat)
  case atStart => exact ⟨0, Nat.zero_le _, rfl, rfl, Lib.hid rfl, Lib.hid (bal (Below.refl _ _) _), by simp [go_sem], by simp [go_sem], by simp [go_sem], by simp [go_sem], by simp [go_sem], by simp [go_sem]⟩
  case round =>
   obtain ⟨k, hk, rfl, rfl, HN, HB, y0, y1, y2, y3, y4, y5⟩ := hrel
   have z0 := cellk HB.out c0
   have z1 := cellk HB.out c1
   by_cases hlt : k < l.length
   ·obtain ⟨ad, rfl, d0, d1, d2, d3, d4, d5⟩ := at_T66 (Kd.qp HC.out HB.out) (k : Int) (by omega) (by omega)
    have hq : qI l (k : Int) = l[k] := by simp [qI, hlt]
    have HM := Lib.hid (fndF_miss 0 o l k hlt HN.out)
    have HH := Lib.hid (fndF_hit 0 o l k hlt HN.out)
    rw [← hq] at HM HH
    simp only [Int.toNat_natCast] at d0 d1 d2 d3 d4 d5
    clear hq
    generalize qI l (k : Int) = q at *
    have hks : ¬ (k : Int) < 0 := by omega
    have tk : decide ((k : Int) < 0) = false := decide_eq_false hks
    have HQ := Lib.hid (fun v => HA.out q v)
    go_wp2
    refine qG (by kernel_rfl) (by kernel_rfl) ?_
    intro T _ F hF hS
    have e0 := fcell hF z0
    have e1 := fcell hF z1
    have x0 := fun s => ((hF s).cell (World.block_lt_of_cell? _ _ d0)).trans d0
    have x1 := fun s => ((hF s).cell (World.block_lt_of_cell? _ _ d1)).trans d1
    have x2 := fun s => ((hF s).cell (World.block_lt_of_cell? _ _ d2)).trans d2
    have x3 := fun s => ((hF s).cell (World.block_lt_of_cell? _ _ d3)).trans d3
    have x4 := fun s => ((hF s).cell (World.block_lt_of_cell? _ _ d4)).trans d4
    have x5 := fun s => ((hF s).cell (World.block_lt_of_cell? _ _ d5)).trans d5
    have g0 := fcell hF y0
    have g1 := fcell hF y1
    have g2 := fcell hF y2
    have g3 := fcell hF y3
    have g4 := fcell hF y4
    have g5 := fcell hF y5
    have HRF : ∀ s, Hid (Below w.heap.size w (F s)) := fun s => Lib.hid (bthen HB.out (hF s))
    rcases Bool.eq_false_or_eq_true (alikeB q o) with hA | hA
    ·have HH' := Lib.hid (HH.out (by omega) hA)
     rw [hA] at HQ
     clear HM HH hA HA
     repeat (go_big_quiet_step (first | (go_at_call 109; exact qbelow hS (HQ.out _)) | fail))
     refine wpQuiet_nil ?_
     intro w2 hw2
     obtain ⟨s2, rfl⟩ := hw2
     have HB2 := Lib.hid (HRF s2).out
     go_wp2
     rw [Exit.noGoto_ret]
     go_ret
     exact ⟨by rw [HH'.out]; rfl, HB2.out⟩
    ·have HM' := Lib.hid (HM.out (.inr hA))
     rw [hA] at HQ
     clear HM HH hA HA
     repeat (go_big_quiet_step (first | (go_at_call 109; exact qbelow hS (HQ.out _)) | fail))
     refine wpQuiet_nil ?_
     intro w2 hw2
     obtain ⟨s2, rfl⟩ := hw2
     have HB2 := Lib.hid (HRF s2).out
     replace g0 := g0 s2
     replace g1 := g1 s2
     replace g2 := g2 s2
     replace g3 := g3 s2
     replace g4 := g4 s2
     replace g5 := g5 s2
     go_wp2
     go_roundw
     case rel => exact ⟨k + 1, by omega, rfl, by go_num, HM', HB2, g0, g1, g2, g3, g4, g5⟩
     case measure => simp [intOf]; omega
   ·have hke : k = l.length := by omega
    subst hke
    have hN := HN.out
    rw [List.take_length] at hN
    have HN' := Lib.hid hN
    clear hN
    go_wp2
    (try rw [Exit.noGoto_ret])
    go_ret
    exact ⟨by rw [HN'.out]; rfl, HB.out⟩
end Go.Proofs.Ytlnbghhhifnbdaa
