/- Contract of number.Do: a new block, its values shared, or what is wrong. Conditions: the block reads as the given one, its lists have at most a million entries. -/
import Derived.Test.YtlnbghhhifnbdaaZYNd
namespace Go.Proofs.Ytlnbghhhifnbdaa
open Go.RowKit Go.Proofs.YtlnbghhhifnbdaaW.PrintWords Go.Proofs.YtlnbghhhifnbdaaW.PrintLast Go.Proofs.YtlnbghhhifnbdaaW.PrintMore Go.Proofs.Ytlnbghhhifnbdaa.PNumberDoes
set_option linter.unusedVariables false
set_option linter.unusedSimpArgs false

theorem bthenN {k N : Nat} {w w1 w2 : World} (h : Below k w w1) (hb : Below N w1 w2) (hk : k ≤ N) : Below k w w2 := h.trans (hb.mono hk)
theorem infoInt : (Try.prog.info? 3).map (fun i => (i.zero, i.size, i.bytes)) = some (some (.int .i64 0), 1, 8) := by kernel_rfl
set_option maxHeartbeats 4000000 in
theorem numdo_no (B : BlkV) (g : Nat) (w : World) (hB : BlockAt w g B) (hM : Maps B) (hP : B.pcs.length ≤ 1000000) (hO : B.ops.length ≤ 1000000) (hE : B.exits.length ≤ 1000000) (h : checkB B ≠ 0) :
  Calls Try.prog 28 #[.pointer (some ⟨g, 0, none⟩)] w fun e w' => e = .returned (.tuple #[.pointer none, .int .i64 (checkB B)]) ∧ Below w.heap.size w w' := by
 have HCK := Lib.hid (check_c B g w hB hM hP hO hE)
 have t : (checkB B != 0) = true := bne_iff_ne.2 h
 generalize checkB B = ck at *
 clear hB hM hP hO hE h
 go_enter Try.func28, Try.ntmps28
 go_wp2_with fail
 refine HCK.out.mono ?_
 rintro e w1 ⟨rfl, hb1⟩
 have HB1 := Lib.hid hb1
 clear hb1
 go_wp2
 go_ret2
 exact ⟨rfl, HB1.out⟩
theorem RightN.named {B : BlkV} (h : RightN B) (k : Nat) (hk : k < B.ops.length) (n : Nat) (hn : n = k) : (B.ops[k].f0 = 3 ∨ B.ops[k].f0 = 4 ∨ B.ops[k].f0 = 5 ∨ B.ops[k].f0 = 6 → 0 ≤ B.ops[k].f1 ∧ B.ops[k].f1 < (n : Int)) ∧ (B.ops[k].f0 = 3 ∨ B.ops[k].f0 = 5 ∨ B.ops[k].f0 = 6 → 0 ≤ B.ops[k].f2 ∧ B.ops[k].f2 < (n : Int)) := by
 subst hn
 exact h.ops n _ (List.getElem?_eq_getElem hk)
structure ShQ (N : Nat) (B : BlkV) (wr : World) (gs gc : Nat) (v0 v2 vt vt' : Value) (G : Nat → Nat) (l : List S66) (tv : List Int) (v1 : Value) (st : Int) : Prop where
 c : ShC N wr gs gc B.last v0 v1 v2 vt st
 r : ShR N B wr v0 v2 G
 l : Kd.R k66 66 wr N (fun _ => True) v1 l
 t : Kd.R (Kd.int .i64) 3 wr N (fun _ => True) vt' tv
section
variable {N : Nat} {B : BlkV} {wr w1 : World} {gs gc : Nat} {v0 v2 vt vt' v1 : Value} {G : Nat → Nat} {l : List S66} {tv tv' : List Int} {st : Int}
theorem ShS.overT (h : ShS N B wr gs gc v0 v2 vt G l tv v1 st) (ht : Kd.R (Kd.int .i64) 3 w1 N (fun _ => True) vt' tv') (hg : wr.grownBy w1 vt.ownBlock) : ShQ N B w1 gs gc v0 v2 vt vt' G l tv' v1 st :=
 ⟨h.c.grown hg (h.c.row h.t (by decide) (by decide)), h.r.over h.t (by decide) (by decide) (by decide) hg, Kd.R_over h.l h.t (by decide) hg, ht⟩
theorem ShQ.done (h : ShQ N B wr gs gc v0 v2 vt vt' G l tv v1 st) : ShS N B (wr.setCell ⟨gs, 1, none⟩ vt') gs gc v0 v2 vt' G l tv v1 st :=
 ⟨h.c.setT vt', h.r.set h.c.bs (by decide) (by decide) (by decide) 1 _, Kd.R_set h.l h.c.bs (by decide) 1 _, Kd.R_set h.t h.c.bs (by decide) 1 _⟩
end
theorem ShS.start {N : Nat} {B : BlkV} {w : World} {gc : Nat} {v0 v1 v2 : Value} {G : Nat → Nat} (hb : w.heap[gc]? = some (.cells #[v0, v1, v2, .int .i64 B.last] 75 (0, 0))) (hp : PartP N B v0 w) (hx : ExRow N w G v2 B.exits) (hg : N ≤ gc) (hw : N ≤ w.heap.size) :
  ShS N B ((w.setCell ⟨gc, 1, none⟩ (.slice none 0 0)).alloc (.cells #[.pointer (some ⟨gc, 0, none⟩), .slice none 0 0, .int .i64 0] 105)) w.heap.size gc v0 v2 (.slice none 0 0) G [] [] (.slice none 0 0) 0 :=
 ⟨⟨by simpa using blk_new (w.setCell ⟨gc, 1, none⟩ (.slice none 0 0)) _, qh (qF hb 1 _) _, hw, hg⟩, ((⟨hp, hx⟩ : ShR N B w v0 v2 G).set hb (by decide) (by decide) (by decide) 1 _).below (bal (Below.refl _ _) _), Kd.R_nil _ _ _ _ _, Kd.R_nil _ _ _ _ _⟩
def mixL {α : Type} (f : α → α) (l : List α) (k : Nat) : List α := (l.take k).map f ++ l.drop k
section
variable {α : Type} (f : α → α) (l : List α)
theorem mixL_zero : mixL f l 0 = l := by simp [mixL]
theorem mixL_all : mixL f l l.length = l.map f := by simp [mixL]
theorem mixL_length (k : Nat) (h : k ≤ l.length) : (mixL f l k).length = l.length := by simp [mixL]; omega
theorem mixL_get (k : Nat) (h : k < l.length) : (mixL f l k)[k]? = some l[k] := by
 unfold mixL
 rw [List.getElem?_append_right (by simp; omega)]
 simp [Nat.min_eq_left (Nat.le_of_lt h), h]
theorem mixL_set (k : Nat) (h : k < l.length) : (mixL f l k).set k (f l[k]) = mixL f l (k + 1) := by
 unfold mixL
 have e : ((l.take k).map f).length = k := by simp; omega
 rw [List.set_append_right _ _ (by omega), e, Nat.sub_self, List.drop_eq_getElem_cons h, List.set_cons_zero, List.take_succ_eq_append_getElem h, List.map_append, List.append_assoc]
 rfl
theorem mixL_set0 (k : Nat) (h : k < l.length) : (mixL f l k).set k l[k] = mixL f l k := by
 have e := mixL_get f l k h
 apply List.ext_getElem?
 intro i
 by_cases q : i = k
 ·subst q
  rw [List.getElem?_set_self (List.getElem?_eq_some_iff.1 e).1, e]
 ·rw [List.getElem?_set_ne (fun r => q r.symm)]
end
structure ShE (N : Nat) (B : BlkV) (wr : World) (gs gc h : Nat) (v0 v2 vt : Value) (G : Nat → Nat) (xs : List S72) (l : List S66) (tv : List Int) (v1 : Value) (st : Int) : Prop where
 c : ShC N wr gs gc B.last v0 v1 v2 vt st
 p : PartP N B v0 wr
 x : ExAt N wr h G xs
 l : Kd.R k66 66 wr N (fun _ => True) v1 l
 t : Kd.R (Kd.int .i64) 3 wr N (fun _ => True) vt tv
section
variable {N : Nat} {B : BlkV} {wr w1 : World} {gs gc h : Nat} {v0 v2 vt v1 : Value} {G : Nat → Nat} {xs : List S72} {l : List S66} {tv : List Int} {st : Int}
theorem ShE.setTo (s : ShE N B wr gs gc h v0 v2 vt G xs l tv v1 st) {i : Nat} {x : S72} (hx : xs[i]? = some x) (v : Int) : ShE N B (wr.setCell ⟨h, i * 5 + 2, none⟩ (.int .i64 v)) gs gc h v0 v2 vt G (xs.set i ⟨x.f0, x.f1, v, x.f3, x.f4⟩) l tv v1 st := by
 obtain ⟨cur, hc⟩ := s.x.hb
 exact ⟨⟨qu s.c.bs (blk_ne s.c.bs hc (by decide)) _, qu s.c.bc (blk_ne s.c.bc hc (by decide)) _, s.c.ns, s.c.nc⟩, Kd.R_set s.p hc (by decide) _ _, s.x.setTo hx v, Kd.R_set s.l hc (by decide) _ _, Kd.R_set s.t hc (by decide) _ _⟩
theorem ShE.setVal (s : ShE N B wr gs gc h v0 v2 vt G xs l tv v1 st) {i m : Nat} {x : S72} {q : S69} (hx : xs[i]? = some x) (hm : x.f4[m]? = some q) (v : Int) : ShE N B (wr.setCell ⟨G i, m * 2 + 1, none⟩ (.int .i64 v)) gs gc h v0 v2 vt G (xs.set i ⟨x.f0, x.f1, x.f2, x.f3, x.f4.set m ⟨q.f0, v⟩⟩) l tv v1 st := by
 have hp : 0 < x.f4.length := by have := (List.getElem?_eq_some_iff.1 hm).1; omega
 obtain ⟨-, ⟨cur, hc⟩, -⟩ := s.x.mp i x hx hp
 exact ⟨⟨qu s.c.bs (blk_ne s.c.bs hc (by decide)) _, qu s.c.bc (blk_ne s.c.bc hc (by decide)) _, s.c.ns, s.c.nc⟩, Kd.R_set s.p hc (by decide) _ _, s.x.setVal hx hm v, Kd.R_set s.l hc (by decide) _ _, Kd.R_set s.t hc (by decide) _ _⟩
theorem ShE.below (s : ShE N B wr gs gc h v0 v2 vt G xs l tv v1 st) (hb : Below wr.heap.size wr w1) : ShE N B w1 gs gc h v0 v2 vt G xs l tv v1 st := ⟨s.c.below hb, Kd.qN s.p hb, s.x.below hb, Kd.qN s.l hb, Kd.qN s.t hb⟩
theorem ShE.fx (s : ShE N B wr gs gc h v0 v2 vt G xs l tv v1 st) (i : Nat) : wr.frozen? ⟨h, i, none⟩ = false := by
 obtain ⟨cur, hc⟩ := s.x.hb
 exact qa hc i
end
def exM (tv : List Int) (x : S72) (m : Nat) : S72 := ⟨x.f0, x.f1, if x.f2 = -1 then -1 else rd tv x.f2, x.f3, mixL (fun v => ⟨v.f0, rd tv v.f1⟩) x.f4 m⟩
theorem exM_all (tv : List Int) (x : S72) : exM tv x x.f4.length = exN tv x := by
 unfold exM exN
 rw [mixL_all]
theorem exM_zero (tv : List Int) (x : S72) (h : x.f2 = -1) : exM tv x 0 = x := by
 unfold exM
 rw [mixL_zero, if_pos h, ← h]
theorem exM_to (tv : List Int) (x : S72) (h : x.f2 ≠ -1) : exM tv x 0 = ⟨x.f0, x.f1, rd tv x.f2, x.f3, x.f4⟩ := by
 unfold exM
 rw [mixL_zero, if_neg h]
theorem exM_len (tv : List Int) (x : S72) (m : Nat) (h : m ≤ x.f4.length) : (exM tv x m).f4.length = x.f4.length := mixL_length _ _ m h
theorem exM_step (tv : List Int) (x : S72) (m : Nat) (h : m < x.f4.length) : (⟨(exM tv x m).f0, (exM tv x m).f1, (exM tv x m).f2, (exM tv x m).f3, (exM tv x m).f4.set m ⟨x.f4[m].f0, rd tv x.f4[m].f1⟩⟩ : S72) = exM tv x (m + 1) := by
 have e := mixL_set (fun v : S69 => (⟨v.f0, rd tv v.f1⟩ : S69)) x.f4 m h
 show (⟨x.f0, x.f1, _, x.f3, _⟩ : S72) = ⟨x.f0, x.f1, _, x.f3, _⟩
 rw [← e]
 rfl
section
variable {N : Nat} {B : BlkV} {wr w1 : World} {gs gc h k m : Nat} {v0 v2 vt v1 : Value} {G : Nat → Nat} {xs : List S72} {x : S72} {l : List S66} {tv : List Int} {st : Int} {At : Option Addr} {ct : Nat}
theorem ShE.row (s : ShE N B wr gs gc h v0 v2 vt G (xs.set k (exM tv x m)) l tv v1 st) (hk : k < xs.length) (hm : m ≤ x.f4.length) : ∃ A c, wr.cell? ⟨h, k * 5 + 4, none⟩ = some (.slice A x.f4.length c) := by
 obtain ⟨-, -, -, -, A, c, d, -, -⟩ := s.x.el k _ (List.getElem?_set_self hk)
 rw [exM_len tv x m hm] at d
 exact ⟨A, c, d⟩
theorem ShE.tocell (s : ShE N B wr gs gc h v0 v2 (.slice At tv.length ct) G xs l tv v1 st) (i : Int) (h0 : 0 ≤ i) (h1 : i < (tv.length : Int)) : ∃ g2, At = some ⟨g2, 0, none⟩ ∧ wr.cell? ⟨g2, i.toNat, none⟩ = some (.int .i64 (rd tv i)) := by
 obtain ⟨g2, cap2, hv2, -, -, -⟩ := Kd.R_form s.t (by omega)
 cases hv2
 obtain ⟨ad, had, d1⟩ := Kd.at_int (Kd.R_reads' s.t).2.2 i h0 h1
 cases had
 rw [add_plain] at d1
 exact ⟨g2, rfl, d1⟩
theorem ShE.inner (s : ShE N B wr gs gc h v0 v2 vt G (xs.set k (exM tv x m)) l tv v1 st) (hk : k < xs.length) (hm : m < x.f4.length) : ∃ gk c, wr.cell? ⟨h, k * 5 + 4, none⟩ = some (.slice (some ⟨gk, 0, none⟩) x.f4.length c) ∧ wr.cell? ⟨gk, m * 2 + 1, none⟩ = some (.int .i64 x.f4[m].f1) ∧ wr.frozen? ⟨gk, m * 2 + 1, none⟩ = false ∧ N ≤ gk ∧
  Hid (ShE N B (wr.setCell ⟨gk, m * 2 + 1, none⟩ (.int .i64 (rd tv x.f4[m].f1))) gs gc h v0 v2 vt G (xs.set k (exM tv x (m + 1))) l tv v1 st) := by
 have hx : (xs.set k (exM tv x m))[k]? = some (exM tv x m) := List.getElem?_set_self hk
 have hl := exM_len tv x m (Nat.le_of_lt hm)
 obtain ⟨-, -, -, -, A, c, d, -, ha⟩ := s.x.el k _ hx
 have hA := ha (by omega)
 subst hA
 rw [hl] at d
 obtain ⟨hN, ⟨cur, hc⟩, hv⟩ := s.x.mp k _ hx (by omega)
 have hg : (exM tv x m).f4[m]? = some x.f4[m] := mixL_get _ _ m hm
 have hs := s.setVal hx hg (rd tv x.f4[m].f1)
 rw [List.set_set, exM_step tv x m hm] at hs
 exact ⟨G k, c, d, (hv m _ hg).2, qa hc _, hN, Lib.hid hs⟩
end
theorem blockAt_end {N : Nat} {B : BlkV} {wr : World} {gs gc : Nat} {v0 vt v1 : Value} {G : Nat → Nat} {l : List S66} {tv : List Int} {st : Int} {A2 : Option Addr} {cx : Nat} (h : ShS N B wr gs gc v0 (.slice A2 B.exits.length cx) vt G l tv v1 st) (sB : SmallB B) {B' : BlkV} {xs : List S72} (hn : B' = ⟨B.pcs, l, xs, B.last⟩) (hC : k72.C wr A2 B.exits.length xs) (hl : B.exits.length ≤ cx) : BlockAt wr gc B' := by
 subst hn
 obtain ⟨A0, c0, rfl, -, hC0⟩ := Kd.qP h.r.p
 obtain ⟨A1, c1, rfl, -, hC1⟩ := Kd.qP h.l
 have hxl : xs.length = B.exits.length := hC.1
 exact ⟨⟨A0, c0, by rw [qb h.c.bc]; rfl, hC0⟩, ⟨A1, c1, by rw [qb h.c.bc]; rfl, hC1⟩, ⟨A2, cx, by rw [qb h.c.bc]; show some _ = _; rw [hxl]; rfl, by show k72.C wr A2 xs.length xs; rw [hxl]; exact hC⟩, by rw [qb h.c.bc]; rfl⟩
theorem blockAt_endE {N : Nat} {B : BlkV} {wr : World} {gs gc h : Nat} {v0 vt v1 : Value} {G : Nat → Nat} {ys : List S72} {l : List S66} {tv : List Int} {st : Int} {A2 : Option Addr} {cx : Nat} (h : ShE N B wr gs gc h v0 (.slice A2 B.exits.length cx) vt G ys l tv v1 st) (sB : SmallB B) {B' : BlkV} {xs : List S72} (hn : B' = ⟨B.pcs, l, xs, B.last⟩) (hC : k72.C wr A2 B.exits.length xs) (hl : B.exits.length ≤ cx) : BlockAt wr gc B' := by
 subst hn
 obtain ⟨A0, c0, rfl, -, hC0⟩ := Kd.qP h.p
 obtain ⟨A1, c1, rfl, -, hC1⟩ := Kd.qP h.l
 have hxl : xs.length = B.exits.length := hC.1
 exact ⟨⟨A0, c0, by rw [qb h.c.bc]; rfl, hC0⟩, ⟨A1, c1, by rw [qb h.c.bc]; rfl, hC1⟩, ⟨A2, cx, by rw [qb h.c.bc]; show some _ = _; rw [hxl]; rfl, by show k72.C wr A2 xs.length xs; rw [hxl]; exact hC⟩, by rw [qb h.c.bc]; rfl⟩
set_option maxHeartbeats 8000000 in
set_option maxRecDepth 100000 in
theorem numdo_yes (B : BlkV) (g : Nat) (w : World) (hB : BlockAt w g B) (hM : Maps B) (sB : SmallB B) (h : checkB B = 0) :
  Calls Try.prog 28 #[.pointer (some ⟨g, 0, none⟩)] w fun e w' => (∃ gc, e = .returned (.tuple #[.pointer (some ⟨gc, 0, none⟩), .int .i64 0]) ∧ BlockAt w' gc (numB alikeB B)) ∧ Below w.heap.size w w' := by
 have hR := rightN_of h
 have HR := Lib.hid hR
 have hlo := hR.lo
 have HCK := Lib.hid (check_c B g w hB hM sB.p sB.o sB.e)
 have HCL := Lib.hid (fun v (hb : Below w.heap.size w v) => irclone_s B g v (hB.below hb) sB)
 obtain ⟨A1, c1, pc1, k1⟩ := hB.ops
 have HC1 := Lib.hid k1
 have hg : g < w.heap.size := World.block_lt_of_cell? w ⟨g, 1, none⟩ pc1
 rw [h] at HCK
 have HSB := Lib.hid sB
 clear hM sB k1 hR h hB
 go_enter Try.func28, Try.ntmps28
 go_wp2_with fail
 refine HCK.out.mono ?_
 rintro e w1 ⟨rfl, hb1⟩
 have HB1 := Lib.hid hb1
 have hs1 := hb1.size
 replace pc1 := cellk hb1 pc1
 clear hb1 HCK
 go_wp2_with fail
 refine (HCL.out _ HB1.out).mono ?_
 rintro e w2 ⟨⟨gc, rfl, v0, v1, v2, G, ngc, hbc, hp0, hp1, hx⟩, hb2⟩
 have HB2 := Lib.hid (bthen HB1.out hb2)
 have hs2 := hb2.size
 replace pc1 := cellk hb2 pc1
 have HP0 := Lib.hid hp0
 have HX := Lib.hid hx
 have hgc : gc < w2.heap.size := qJ hbc
 have hgcn : ¬ gc = w2.heap.size := by omega
 have hc1 : w2.cell? ⟨gc, 1, none⟩ = some v1 := by rw [qb hbc]; rfl
 have hf1 : w2.frozen? ⟨gc, 1, none⟩ = false := qa hbc 1
 have hgg : ¬ g = gc := by omega
 have hgg2 : ¬ gc = g := by omega
 have hgw : ¬ g = w2.heap.size := by omega
 have pc2 : (w2.setCell ⟨gc, 1, none⟩ (.slice none 0 0)).cell? ⟨g, 1, none⟩ = some (.slice A1 B.ops.length c1) := (World.cell?_of_block (a := ⟨g, 1, none⟩) (Below.heap_setCell w2 ⟨gc, 1, none⟩ _ g hgg)).trans pc1
 have pc3 : ((w2.setCell ⟨gc, 1, none⟩ (.slice none 0 0)).alloc (.cells #[.pointer (some ⟨gc, 0, none⟩), .slice none 0 0, .int .i64 0] 105)).cell? ⟨g, 1, none⟩ = some (.slice A1 B.ops.length c1) := cellk (bal (Below.refl _ _) _) pc2
 have HST := Lib.hid (ShS.start hbc hp0 hx ngc hs2)
 have HBS := Lib.hid (bal (HB2.out.setCell (p := ⟨gc, 1, none⟩) (show w.heap.size ≤ gc by omega) (.slice none 0 0)) (.cells #[.pointer (some ⟨gc, 0, none⟩), .slice none 0 0, .int .i64 0] 105))
 clear hp0 hp1 hx hb2 HB1 HCL HP0 HX hbc
 go_wp2
 have HC1b := Lib.hid (fun v (hb : Below w.heap.size w v) => Kd.qp HC1.out hb)
 go_loopw [31] (fun i wr => ∃ k : Nat, k ≤ B.ops.length ∧ i = .int .i64 k ∧ ∃ v1 vt, Hid (ShS w1.heap.size B wr w2.heap.size gc v0 v2 vt G (runN alikeB (B.ops.take k)).1 (runN alikeB (B.ops.take k)).2 v1 (stO (runN alikeB (B.ops.take k)).1).2) ∧ Hid (Below w.heap.size w wr)) (fun i _ => B.ops.length - (intOf i).toNat)
 case atStart => exact ⟨0, Nat.zero_le _, rfl, _, _, HST, HBS⟩
 case round =>
  clear HST HBS
  obtain ⟨k, hk, rfl, v1', vt, HS, HB⟩ := hrel
  have e0 := HS.out.c.s0
  have e1 := HS.out.c.s1
  have e2 := HS.out.c.fs 1
  have hls := HS.out.c.lts
  have hlc := HS.out.c.ltc
  by_cases hlt : k < B.ops.length
  ·obtain ⟨ad, rfl, d0, d1, d2, d3, d4, d5⟩ := at_T66 (HC1b.out _ HB.out) (k : Int) (by omega) (by omega)
   have hq : qI B.ops (k : Int) = B.ops[k] := by simp [qI, hlt]
   have hlen := runN_len alikeB (B.ops.take k)
   rw [List.length_take, Nat.min_eq_left hk] at hlen
   obtain ⟨ht1, ht2, ht3⟩ := hlen
   have hstep : runN alikeB (B.ops.take (k + 1)) = ((opN (runN alikeB (B.ops.take k)).1 (nmO (runN alikeB (B.ops.take k)).2 B.ops[k])).2, (runN alikeB (B.ops.take k)).2 ++ [(opN (runN alikeB (B.ops.take k)).1 (nmO (runN alikeB (B.ops.take k)).2 B.ops[k])).1]) := by
    rw [runN_take alikeB B.ops k hlt]
    exact stepN_op _ _ _
   obtain ⟨n1, n2⟩ := HR.out.named k hlt _ ht1
   have HSTEP := Lib.hid hstep
   rw [← hq] at HSTEP n1 n2
   simp only [Int.toNat_natCast] at d0 d1 d2 d3 d4 d5
   clear hq hstep ht3
   generalize qI B.ops (k : Int) = q at *
   generalize (runN alikeB (B.ops.take k)).1 = l at *
   generalize (runN alikeB (B.ops.take k)).2 = tv at *
   have hNw : w1.heap.size ≤ wr.heap.size := Nat.le_trans HS.out.c.ns (Nat.le_of_lt hls)
   have HOP := Lib.hid (fun v (hb : Below wr.heap.size wr v) => shop_c w1.heap.size B w2.heap.size gc v0 v1' v2 vt G l tv v (HS.out.below hb) (Nat.le_trans hNw hb.size) q (by omega) n1 n2)
   have HLEN2 : ∀ R : Int, Hid ((tv ++ [R]).length = tv.length + 1) := fun R => Lib.hid (by simp)
   have HTL := Lib.hid (show (tv.length + 1) * 8 ≤ 140737488355328 by omega)
   have HT1 := Lib.hid ht1
   clear ht1
   generalize (opN l (nmO tv q)).1 = R at *
   generalize (opN l (nmO tv q)).2 = L at *
   clear n1 n2
   have hn1 : ¬ w2.heap.size = wr.heap.size := by omega
   have HBEL := Lib.hid (below_drew (bal (Below.refl wr.heap.size wr) (.cells #[.int .i64 q.f0, .int .i64 q.f1, .int .i64 q.f2, .int .u32 q.f3, .int .i64 q.f4, .int .i64 q.f5] 66)))
   have HAFTER : Hid (∀ w3 v1n, Hid (ShS w1.heap.size B w3 w2.heap.size gc v0 v2 vt G L tv v1n (stO L).2) → Below w1.heap.size ((wr.alloc (.cells #[.int .i64 q.f0, .int .i64 q.f1, .int .i64 q.f2, .int .u32 q.f3, .int .i64 q.f4, .int .i64 q.f5] 66)).drew) w3 → w3.cell? ⟨w2.heap.size, 0, none⟩ = some (.pointer (some ⟨gc, 0, none⟩)) ∧ w3.cell? ⟨w2.heap.size, 1, none⟩ = some vt ∧ w3.frozen? ⟨w2.heap.size, 1, none⟩ = false ∧ ¬ w2.heap.size = w3.heap.size ∧ Hid (Below w.heap.size w w3) ∧ Hid (w1.heap.size ≤ w3.heap.size)) := Lib.hid (by
    intro w3 v1n HS3 hb3
    have f3 := HS3.out.c.lts
    exact ⟨HS3.out.c.s0, HS3.out.c.s1, HS3.out.c.fs 1, by omega, Lib.hid (bthenN (bthen HB.out HBEL.out) hb3 hs1), Lib.hid (Nat.le_trans HS3.out.c.ns (Nat.le_of_lt f3))⟩)
   have HLAST : Hid (∀ w3 w4 v1n v4, Hid (ShS w1.heap.size B w3 w2.heap.size gc v0 v2 vt G L tv v1n (stO L).2) → Hid (Below w.heap.size w w3) → Kd.R (Kd.int .i64) 3 w4 w1.heap.size (fun _ => True) v4 (tv ++ [R]) → Below w1.heap.size w3 w4 → w3.grownBy w4 vt.ownBlock → w4.cell? ⟨w2.heap.size, 0, none⟩ = some (.pointer (some ⟨gc, 0, none⟩)) ∧ w4.cell? ⟨w2.heap.size, 1, none⟩ = some vt ∧ w4.frozen? ⟨w2.heap.size, 1, none⟩ = false ∧ Hid (ShS w1.heap.size B (w4.setCell ⟨w2.heap.size, 1, none⟩ v4) w2.heap.size gc v0 v2 v4 G L (tv ++ [R]) v1n (stO L).2) ∧ Hid (Below w.heap.size w (w4.setCell ⟨w2.heap.size, 1, none⟩ v4))) := Lib.hid (by
    intro w3 w4 v1n v4 HS3 HB3 ho4 hb4 hg4
    have HS4 := HS3.out.overT ho4 hg4
    exact ⟨HS4.c.s0, HS4.c.s1, HS4.c.fs 1, Lib.hid HS4.done, Lib.hid ((bthenN HB3.out hb4 hs1).setCell (p := ⟨w2.heap.size, 1, none⟩) (Nat.le_trans hs1 HS4.c.ns) _)⟩)
   go_wp2_with fail
   go_region_law (first | (go_simp; with_reducible refine Calls.mono (HOP.out _ HBEL.out) ?_; rintro e w3 ⟨⟨rfl, v1n, HS3⟩, hb3⟩; obtain ⟨f0, f1, f2, f4, HB3, HNB⟩ := HAFTER.out w3 v1n HS3 hb3; have f5 := cellk (bal (Below.refl w3.heap.size w3) (.cells #[.int .i64 R] 3)) f1; clear hb3) | (refine Kd.R_append_step (Kd.int .i64) (w0 := w3) w1.heap.size rfl (.tmp 39) (.tmp 43) 80 3 (.int .i64 0) 8 rfl Try.underlying80 infoInt rfl (by decide) (by decide) vt tv R [.int .i64 R] (fun _ => True) (fun _ => False) rfl rfl (by exact rfl) (fun _ hk => hk.elim) (fun _ _ => trivial) HS3.out.t (Below.refl _ _) HNB.out HTL.out ?_; intro v4 w4 ho4 hb4 hg4 hat4; obtain ⟨A4, c4, hv4⟩ := Kd.R_slice ho4; rw [(HLEN2 R).out] at hv4; subst hv4; obtain ⟨i0, i1, i2, HS4, HB4⟩ := HLAST.out w3 w4 v1n _ HS3 HB3 ho4 hb4 hg4; clear ho4 hb4 hg4 hat4))
   all_goals
    go_wp2
    go_roundw
    case rel => exact ⟨k + 1, by omega, by go_num, _, _, Lib.hid (by rw [HSTEP.out]; exact HS4.out), HB4⟩
    case measure => simp [intOf]; omega
  ·have hke : B.ops.length = k := by omega
   have hS := HS.out
   rw [← hke, List.take_length] at hS
   have hlen := runN_len alikeB B.ops
   obtain ⟨ht1, ht2, ht3⟩ := hlen
   have HRX := Lib.hid (fun (j : Nat) (hj : j < B.exits.length) => (⟨by have := HR.out.tv j _ (List.getElem?_eq_getElem hj); rwa [← ht1] at this, by have := HR.out.map j _ (List.getElem?_eq_getElem hj); rwa [← ht1] at this⟩ : (B.exits[j].f2 = -1 ∨ (0 ≤ B.exits[j].f2 ∧ B.exits[j].f2 < ((runN alikeB B.ops).2.length : Int))) ∧ ∀ v ∈ B.exits[j].f4, 0 ≤ v.f1 ∧ v.f1 < ((runN alikeB B.ops).2.length : Int)))
   have HNUM := Lib.hid (show numB alikeB B = ⟨B.pcs, (runN alikeB B.ops).1, B.exits.map (exN (runN alikeB B.ops).2), B.last⟩ from rfl)
   generalize (runN alikeB B.ops).1 = l at *
   generalize (runN alikeB B.ops).2 = tv at *
   clear HS hke hk ht1 ht2 ht3 e1 e2 HC1b
   obtain ⟨A2, cx, rfl, hcx, hex⟩ := hS.r.x
   obtain ⟨At, ct, rfl, -, hCt⟩ := Kd.qP hS.t
   have HS2 := Lib.hid hS
   have f2 := hS.c.c2
   by_cases hz : B.exits = []
   ·have hz' : B.exits.length = 0 := by rw [hz]; rfl
    rw [hz'] at f2
    have HFIN := Lib.hid (blockAt_end hS HSB.out HNUM.out (by rw [hz]; exact ⟨rfl, Nat.zero_le _, fun h => absurd h (Nat.lt_irrefl 0)⟩) hcx)
    clear hS hex hz hz' hCt HRX
    obtain ⟨wm, hwm⟩ : ∃ wm, wm = wr := ⟨_, rfl⟩
    subst hwm
    go_wp2
    go_loopw [56] (fun i wr2 => i = .int .i64 0 ∧ wr2 = wm) (fun i _ => 0)
    case atStart => exact ⟨rfl, rfl⟩
    case round =>
     obtain ⟨rfl, rfl⟩ := hrel
     go_wp2
     go_ret2
     exact ⟨⟨gc, rfl, HFIN.out⟩, HB.out⟩
   ·have hp : 0 < B.exits.length := List.length_pos_iff.2 hz
    obtain ⟨h, rfl, hxa⟩ := hex hp
    have HE0 := Lib.hid (⟨hS.c, hS.r.p, by rw [mixL_zero]; exact hxa, hS.l, hS.t⟩ : ShE w1.heap.size B wr w2.heap.size gc h v0 (.slice (some ⟨h, 0, none⟩) B.exits.length cx) (.slice At tv.length ct) G (mixL (exN tv) B.exits 0) l tv v1' (stO l).2)
    have hle := HR.out.le
    clear hS hex hz hCt HS2 hxa
    obtain ⟨wm, hwm⟩ : ∃ wm, wm = wr := ⟨_, rfl⟩
    subst hwm
    go_wp2
    go_loopw [56] (fun i wr2 => ∃ k : Nat, k ≤ B.exits.length ∧ i = .int .i64 k ∧ Hid (ShE w1.heap.size B wr2 w2.heap.size gc h v0 (.slice (some ⟨h, 0, none⟩) B.exits.length cx) (.slice At tv.length ct) G (mixL (exN tv) B.exits k) l tv v1' (stO l).2) ∧ Hid (Below w.heap.size w wr2)) (fun i _ => B.exits.length - (intOf i).toNat)
    case atStart => exact ⟨0, Nat.zero_le _, rfl, HE0, HB⟩
    case round =>
     clear HE0 HB e0 f2 hls hlc
     obtain ⟨k, hk, rfl, HE, HB⟩ := hrel
     have e0 := HE.out.c.s0
     have e1 := HE.out.c.s1
     have f2 := HE.out.c.c2
     by_cases hlt2 : k < B.exits.length
     ·obtain ⟨x2, x4⟩ := HRX.out k hlt2
      have hg := mixL_get (exN tv) B.exits k hlt2
      have HSET := Lib.hid (fun q : S72 => mixL_set (exN tv) B.exits k hlt2)
      have HLN := Lib.hid (mixL_length (exN tv) B.exits k hk)
      obtain ⟨d0, d1, d2, d3, A4, c4, d4, hl4, ha4⟩ := HE.out.x.el k _ hg
      have hm4 := HSB.out.m _ (List.getElem_mem hlt2)
      have HK0 := Lib.hid (mixL_set0 (exN tv) B.exits k hlt2)
      have HK1 := Lib.hid (mixL_set (exN tv) B.exits k hlt2)
      have ff := HE.out.fx (k * 5 + 2)
      generalize B.exits[k] = x at *
      generalize mixL (exN tv) B.exits k = xs at *
      clear HSET d0 d1 d3 d4 ha4 hl4
      have hkl : k < xs.length := by have := (List.getElem?_eq_some_iff.1 hg).1; exact this
      have hct : ¬ (x.f2 = -1) → ∃ g2, At = some ⟨g2, 0, none⟩ ∧ wr.cell? ⟨g2, x.f2.toNat, none⟩ = some (.int .i64 (rd tv x.f2)) := fun q => HE.out.tocell _ (x2.resolve_left q).1 (x2.resolve_left q).2
      go_upto_if 72 with fail
      go_cut [] from 72 to 85 (fun wx => Hid (ShE w1.heap.size B wx w2.heap.size gc h v0 (.slice (some ⟨h, 0, none⟩) B.exits.length cx) (.slice At tv.length ct) G (xs.set k (exM tv x 0)) l tv v1' (stO l).2) ∧ Hid (Below w.heap.size w wx))
      case first =>
       by_cases hm1 : x.f2 = -1
       ·have HE1 := Lib.hid (show ShE w1.heap.size B wr w2.heap.size gc h v0 (.slice (some ⟨h, 0, none⟩) B.exits.length cx) (.slice At tv.length ct) G (xs.set k (exM tv x 0)) l tv v1' (stO l).2 by rw [exM_zero tv x hm1, HK0.out]; exact HE.out)
        have t2 : (x.f2 != -1) = false := by rw [hm1]; rfl
        clear hct x2 hm1
        go_wp2_with fail
        go_meet
        exact ⟨HE1, HB⟩
       ·obtain ⟨g2, rfl, dt⟩ := hct hm1
        obtain ⟨b1, b2⟩ := x2.resolve_left hm1
        have HE1 := Lib.hid (show ShE w1.heap.size B ((wr.drewN 1).setCell ⟨h, k * 5 + 2, none⟩ (.int .i64 (rd tv x.f2))) w2.heap.size gc h v0 (.slice (some ⟨h, 0, none⟩) B.exits.length cx) (.slice (some ⟨g2, 0, none⟩) tv.length ct) G (xs.set k (exM tv x 0)) l tv v1' (stO l).2 by rw [exM_to tv x hm1]; exact (HE.out.below (bdn (Below.refl _ _) 1)).setTo hg _)
        have HB1 := Lib.hid ((bdn HB.out 1).setCell (p := ⟨h, k * 5 + 2, none⟩) (Nat.le_trans hs1 HE.out.x.hN) (.int .i64 (rd tv x.f2)))
        have t2 : (x.f2 != -1) = true := bne_iff_ne.2 hm1
        clear hct x2 hm1
        go_wp2_with fail
        go_region_law (fail)
        all_goals
         go_wp2_with fail
         go_meet
         exact ⟨HE1, HB1⟩
      case rest =>
       obtain ⟨HE1, HB1⟩ := hcut
       clear hct x2 HE HB e0 e1 f2 d2 ff HK0 hg
       obtain ⟨A5, c5, d5⟩ := HE1.out.row hkl (Nat.zero_le _)
       go_wp2
       go_loopw [91] (fun j wr3 => ∃ m : Nat, m ≤ x.f4.length ∧ j = .int .i64 m ∧ Hid (ShE w1.heap.size B wr3 w2.heap.size gc h v0 (.slice (some ⟨h, 0, none⟩) B.exits.length cx) (.slice At tv.length ct) G (xs.set k (exM tv x m)) l tv v1' (stO l).2) ∧ Hid (Below w.heap.size w wr3)) (fun j _ => x.f4.length - (intOf j).toNat)
       case atStart => exact ⟨0, Nat.zero_le _, rfl, HE1, HB1⟩
       case round =>
        clear HE1 HB1 d5
        obtain ⟨m, hm, rfl, HE2, HB2'⟩ := hrel
        have e0 := HE2.out.c.s0
        have e1 := HE2.out.c.s1
        by_cases hlt4 : m < x.f4.length
        ·obtain ⟨b1, b2⟩ := x4 x.f4[m] (List.getElem_mem hlt4)
         obtain ⟨g2, rfl, dt⟩ := HE2.out.tocell _ b1 b2
         obtain ⟨gk, c6, d6, d7, d8, hgk, HS3⟩ := (HE2.out.below (bdn (Below.refl _ _) 1)).inner hkl hlt4
         have d6' : wr.cell? ⟨h, k * 5 + 4, none⟩ = some (.slice (some ⟨gk, 0, none⟩) x.f4.length c6) := by simpa using d6
         have d7' : wr.cell? ⟨gk, m * 2 + 1, none⟩ = some (.int .i64 x.f4[m].f1) := by simpa using d7
         have d8' : wr.frozen? ⟨gk, m * 2 + 1, none⟩ = false := by simpa using d8
         have HB3 := Lib.hid ((bdn HB2'.out 1).setCell (p := ⟨gk, m * 2 + 1, none⟩) (Nat.le_trans hs1 hgk) (.int .i64 (rd tv x.f4[m].f1)))
         generalize x.f4[m] = y at *
         clear d6 d7 d8 hgk
         go_wp2_with fail
         go_region_law (fail)
         all_goals
          go_wp2
          go_roundw
          case rel => exact ⟨m + 1, by omega, by go_num, HS3, HB3⟩
          case measure => simp [intOf]; omega
        ·have hme : m = x.f4.length := by omega
         subst hme
         have hE := HE2.out
         rw [exM_all, HK1.out] at hE
         have HE3 := Lib.hid hE
         clear hE HE2
         go_wp2
         go_roundw
         case rel => exact ⟨k + 1, by omega, by go_num, HE3, HB2'⟩
         case measure => simp [intOf]; omega
     ·have hke : k = B.exits.length := by omega
      subst hke
      have hfin : BlockAt wr gc (numB alikeB B) := by
       have hE := HE.out
       rw [mixL_all] at hE
       have hC := hE.x.C (by rw [List.length_map]; exact HSB.out.e) (fun y hy => by
        obtain ⟨z, hz, rfl⟩ := List.mem_map.1 hy
        show (List.map _ z.f4).length ≤ _
        rw [List.length_map]
        exact HSB.out.m z hz)
       rw [List.length_map] at hC
       exact blockAt_endE hE HSB.out HNUM.out hC hcx
      have HFIN := Lib.hid hfin
      clear hfin HE hlt2
      have hlt3 : ¬ B.exits.length < B.exits.length := Nat.lt_irrefl _
      go_wp2
      go_ret2
      exact ⟨⟨gc, rfl, HFIN.out⟩, HB.out⟩
end Go.Proofs.Ytlnbghhhifnbdaa
