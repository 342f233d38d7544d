/- Contract of the guarder's exits: the exits that are named, told anew. Conditions: the guarder's cells and rows read as given, the block reads as the given one, which is right. -/
import Derived.Test.YthjgakoofmmloaaZYGz
import Derived.StillTailTactics
namespace Go.Proofs.Ythjgakoofmmloaa
open Go.RowKit Go.Proofs.YthjgakoofmmloaaW.PrintWords Go.Proofs.YthjgakoofmmloaaW.PrintLast Go.Proofs.YthjgakoofmmloaaW.PrintMore Go.Proofs.Ythjgakoofmmloaa.PNumberDoes
set_option linter.unusedVariables false
set_option linter.unusedSimpArgs false

theorem gdname_c {N N1 M : Nat} {B : BlkV} {w : World} {gs gc gb gk : Nat} {v0 vt v1 v2 : Value} {la : Int} {l : List S67} {tv kp : List Int} {xs : List S73} (h : GeS N N1 M B w gs gc gb gk v0 vt v1 v2 la l tv xs kp) (n : Int) (h0 : 0 ≤ n) (h1 : n < (B.exits.length : Int)) (hk : kp.length = B.exits.length) :
  Calls Try.prog 105 #[.int .i64 n, .pointer (some ⟨gb, 0, none⟩)] w fun e w' => e = .returned (.tuple #[]) ∧ w.setCell ⟨gk, n.toNat, none⟩ (.int .i64 1) = w' := by
 have e0 := h.b0
 have hx : kp[n.toNat]? = some kp[n.toNat] := List.getElem?_eq_getElem (by omega)
 have e1 := h.kc hx
 have e2 := h.fk n.toNat
 have hx2 : ∃ x, w.cell? ⟨gk, n.toNat, none⟩ = some (.int .i64 x) := ⟨_, e1⟩
 clear e1 hx h hk
 obtain ⟨x, e1⟩ := hx2
 go_enter Try.func105, Try.ntmps105
 go_wp2
 go_end0
 exact ⟨rfl, rfl⟩
structure ExOk (B : BlkV) (s : GSt) : Prop where
 ll : s.l.length ≤ 512
 le : B.exits.length ≤ 128
 la : 0 ≤ s.last ∧ s.last < (B.exits.length : Int)
 ops : ∀ (k : Nat) (h : k < s.l.length), (1 ≤ s.l[k].f0 ∧ s.l[k].f0 ≤ 6) ∧ (4 ≤ s.l[k].f0 → (0 ≤ s.l[k].f4 ∧ s.l[k].f4 < (B.exits.length : Int)) ∧ nmdB s.l s.last s.l[k].f4 = true) ∧ (s.l[k].f0 = 5 → (0 ≤ s.l[k].f5 ∧ s.l[k].f5 < (B.exits.length : Int)) ∧ nmdB s.l s.last s.l[k].f5 = true)
 exits : ∀ (n : Nat) (h : n < B.exits.length), nmdB s.l s.last (n : Int) = true → (B.exits[n].f2 = -1 ∨ (0 ≤ B.exits[n].f2 ∧ B.exits[n].f2 < (s.tv.length : Int))) ∧ ∀ v ∈ B.exits[n].f4, 0 ≤ v.f1 ∧ v.f1 < (s.tv.length : Int)
theorem exOk_of {B : BlkV} (hR : RightG B) : ExOk B (runP B.last B.ops) := by
 have hi := runG_inv B.last B.ops hR.ops
 have hl := runG_len (fun _ => [-1]) (fun _ => []) B.last B.ops
 have hn := fun (n : Int) => named_ref hR (n := n)
 have h1 := hR.n.lo
 have h2 := hR.n.le
 unfold runP at hn ⊢
 generalize runG (fun _ => [-1]) (fun _ => []) B.last B.ops = s at *
 have hlast := hn _ (nmdB_last s.l s.last)
 refine ⟨by omega, h2, ⟨hlast.1, hlast.2.1⟩, fun k h => ?_, fun n h hm => ?_⟩
 ·have hx := List.getElem?_eq_getElem h
  have hmem := List.getElem_mem h
  generalize s.l[k] = x at *
  obtain ⟨j, o, ho, hj, he, -⟩ := hi.src k x hx
  have hc := hR.n.code j o ho
  have hxc : x.f0 = o.f0 := by rw [he]; exact nmO_code s.tv o
  rw [← hxc] at hc
  refine ⟨hc, fun h4 => ?_, fun h5 => ?_⟩
  ·have m := nmdB_x (last := s.last) hmem h4
   have r := hn _ m
   exact ⟨⟨r.1, r.2.1⟩, m⟩
  ·have m := nmdB_y (last := s.last) hmem h5
   have r := hn _ m
   exact ⟨⟨r.1, r.2.1⟩, m⟩
 ·obtain ⟨-, -, y, hy, ha, hb⟩ := hn _ hm
  rw [Int.toNat_natCast, List.getElem?_eq_getElem h] at hy
  cases hy
  exact ⟨ha.imp id fun q => ⟨q.1, q.2.1⟩, fun v hv => ⟨(hb v hv).1, (hb v hv).2.1⟩⟩
set_option maxHeartbeats 60000000 in
set_option maxRecDepth 100000 in
theorem gdexits_c (B : BlkV) (s : GSt) (hO : ExOk B s) (sB : SmallB B) (bg gs gc : Nat) (v0 vt v1 : Value) (w0 w : World) (hB : BlockAt w0 bg B) (hb0 : Below w0.heap.size w0 w) (H : GdS w0.heap.size B w gs gc v0 vt s.l s.tv v1) :
  Calls Try.prog 76 #[.pointer (some ⟨gs, 0, none⟩), .pointer (some ⟨bg, 0, none⟩), .int .i64 s.last] w fun e w' => (e = .returned (.tuple #[]) ∧ Hid (BlockAt w' gc (endB B.pcs B.exits s)) ∧ w'.cell? ⟨gs, 0, none⟩ = some (.pointer (some ⟨gc, 0, none⟩))) ∧ Below w0.heap.size w0 w' := by
 obtain ⟨Ax, cx, ux, kx⟩ := hB.exits
 have HKX := Lib.hid kx
 have f2 := hb0.cell (World.block_lt_of_cell? _ _ ux) |>.trans ux
 have HOK := Lib.hid hO
 have HM := Lib.hid sB.m
 have HFX := Lib.hid (fun v (hv : Below w0.heap.size w0 v) => (hv.cell (World.block_lt_of_cell? _ _ ux)).trans ux)
 have HBN := Lib.hid hb0.size
 have H0 := Lib.hid H
 have HB0 := Lib.hid hb0
 have hle := hO.le
 have hbg : bg < w.heap.size := World.block_lt_of_cell? _ _ f2
 have hbn : ¬ bg = w.heap.size := by omega
 have hbm : ¬ bg = w.heap.size + 1 := by omega
 clear kx hB ux hb0 H hO sB
 have hmk := print_make (P := Try.prog) 81 3 .i64 8 Try.underlying81 infoInt (by decide) B.exits.length (by omega)
 have HG0 := Lib.hid (GeS.start H0.out HB0.out.size)
 have HBA := Lib.hid (show Below w0.heap.size w0 _ from bthen HB0.out (bal (bal (Below.refl w.heap.size w) (.cells (madeCells #[Value.int .i64 0] B.exits.length) 3)) (.cells #[.slice (some ⟨w.heap.size, 0, none⟩) B.exits.length B.exits.length] 81)))
 go_enter Try.func76, Try.ntmps76
 go_upto_region 1 with fail
 generalize hW : (w.alloc (.cells (madeCells #[Value.int .i64 0] B.exits.length) 3)).alloc (.cells #[.slice (some ⟨w.heap.size, 0, none⟩) B.exits.length B.exits.length] 81) = W at *
 clear hW hmk H0 HB0 f2 hbg hbn hbm
 -- the marks
 have HN1 := Lib.hid (gdname_c HG0.out s.last HOK.out.la.1 HOK.out.la.2 (kpA_len _ _))
 go_wp2_with fail
 refine HN1.out.mono ?_
 rintro e w1 ⟨rfl, rfl⟩
 have hg1 := HG0.out.setK s.last.toNat 1
 rw [kpA_set _ _ _ HOK.out.la.1, ← nmdB_zero s.l s.last] at hg1
 have HG1 := Lib.hid hg1
 have HBA1 := Lib.hid (show Below w0.heap.size w0 _ from bset HBA.out (p := ⟨w.heap.size, s.last.toNat, none⟩) HBN.out (.int .i64 1))
 generalize hW1 : W.setCell ⟨w.heap.size, s.last.toNat, none⟩ (.int .i64 1) = W1 at *
 clear hW1 hg1 HG0 HBA HN1
 have e0 := HG1.out.s0
 have e1 := HG1.out.c1
 obtain ⟨A1, c1, rfl, hlc1, -⟩ := Kd.R_reads HG1.out.l
 obtain ⟨At, ct, rfl, hlct, -⟩ := Kd.R_reads HG1.out.t
 have hll := HOK.out.ll
 go_wp2
 go_loopw [33] (fun i wr => ∃ k : Nat, k ≤ s.l.length ∧ i = .int .i64 k ∧ ∃ M, Hid (GeS w0.heap.size w.heap.size M B wr gs gc (w.heap.size + 1) w.heap.size v0 (.slice At s.tv.length ct) (.slice A1 s.l.length c1) (.slice none 0 0) 0 s.l s.tv [] (kpA (nmdB (s.l.take k) s.last) B.exits.length)) ∧ Hid (Below w0.heap.size w0 wr)) (fun i _ => s.l.length - (intOf i).toNat)
 case atStart => exact ⟨0, Nat.zero_le _, rfl, _, HG1, HBA1⟩
 case round =>
  clear e0 e1 HG1 HBA1
  obtain ⟨k, hk, rfl, M, HG, HB⟩ := hrel
  by_cases hlt : k < s.l.length
  ·obtain ⟨ad, had, d0, d1, d2, d3, d4, d5⟩ := at_T67 (Kd.R_reads' HG.out.l).2.2 (k : Int) (by omega) (by omega)
   cases had
   have hq : qz s.l (k : Int) = s.l[k] := by simp [qz, hlt]
   obtain ⟨⟨k1, k6⟩, k4, k5⟩ := HOK.out.ops k hlt
   have t5 := nmdB_five s.l s.last k hlt
   have t4 := nmdB_four s.l s.last k hlt
   have t0 := nmdB_none s.l s.last k hlt
   rw [← hq] at k1 k6 k4 k5 t5 t4 t0
   simp only [Int.toNat_natCast] at d0 d1 d2 d3 d4 d5
   clear hq
   generalize qz s.l (k : Int) = o at *
   have HGA := Lib.hid (HG.out.below ((bal (Below.refl wr.heap.size wr) (.cells #[.int .i64 o.f0, .int .i64 o.f1, .int .i64 o.f2, .int .u32 o.f3, .int .i64 o.f4, .int .i64 o.f5] 67)).mono HG.out.hM))
   have HBX := Lib.hid (bal HB.out (.cells #[.int .i64 o.f0, .int .i64 o.f1, .int .i64 o.f2, .int .u32 o.f3, .int .i64 o.f4, .int .i64 o.f5] 67))
   have bx := qD wr (.cells #[.int .i64 o.f0, .int .i64 o.f1, .int .i64 o.f2, .int .u32 o.f3, .int .i64 o.f4, .int .i64 o.f5] 67)
   have hkn : ¬ wr.heap.size = w.heap.size := by have := HG.out.mkk; have := HG.out.hM; omega
   rcases (by omega : o.f0 = 5 ∨ (o.f0 = 4 ∨ o.f0 = 6) ∨ o.f0 < 4) with h5 | h4 | h0
   ·have b5 : (o.f0 == 5) = true := beq_iff_eq.2 h5
    obtain ⟨⟨m1, m2⟩, -⟩ := k4 (by omega)
    obtain ⟨⟨m3, m4⟩, -⟩ := k5 h5
    have HC1 := Lib.hid (gdname_c HGA.out o.f5 m3 m4 (kpA_len _ _))
    have HG2 := Lib.hid (HGA.out.setK o.f5.toNat 1)
    rw [kpA_set _ _ _ m3] at HG2
    have HC2 := Lib.hid (gdname_c HG2.out o.f4 m1 m2 (kpA_len _ _))
    have HG3 := Lib.hid (HG2.out.setK o.f4.toNat 1)
    rw [kpA_set _ _ _ m1, ← t5 h5] at HG3
    clear HGA HG2 HG k4 k5 t5 t4 t0 h5
    go_wp2_with fail
    refine HC1.out.mono ?_
    rintro e w2 ⟨rfl, rfl⟩
    have y4 : ((wr.alloc (.cells #[.int .i64 o.f0, .int .i64 o.f1, .int .i64 o.f2, .int .u32 o.f3, .int .i64 o.f4, .int .i64 o.f5] 67)).setCell ⟨w.heap.size, o.f5.toNat, none⟩ (.int .i64 1)).cell? ⟨wr.heap.size, 4, none⟩ = some (.int .i64 o.f4) := by rw [qb (qp bx hkn _)]; rfl
    go_wp2_with fail
    refine HC2.out.mono ?_
    rintro e w2 ⟨rfl, rfl⟩
    go_wp2
    go_roundw
    case rel => exact ⟨k + 1, by omega, by go_num, _, HG3, Lib.hid (bset (bset HBX.out (p := ⟨w.heap.size, o.f5.toNat, none⟩) HBN.out (.int .i64 1)) (p := ⟨w.heap.size, o.f4.toNat, none⟩) HBN.out (.int .i64 1))⟩
    case measure => simp [intOf]; omega
   ·have b5 : (o.f0 == 5) = false := beq_eq_false_iff_ne.2 (by omega)
    obtain ⟨⟨m1, m2⟩, -⟩ := k4 (by omega)
    have HC2 := Lib.hid (gdname_c HGA.out o.f4 m1 m2 (kpA_len _ _))
    have HG3 := Lib.hid (HGA.out.setK o.f4.toNat 1)
    rw [kpA_set _ _ _ m1, ← t4 h4] at HG3
    have h46 : (o.f0 == 4) = true ∨ ((o.f0 == 4) = false ∧ (o.f0 == 6) = true) := by
     rcases h4 with h | h
     ·exact .inl (beq_iff_eq.2 h)
     ·exact .inr ⟨beq_eq_false_iff_ne.2 (by omega), beq_iff_eq.2 h⟩
    clear HGA HG k4 k5 t5 t4 t0 h4
    rcases h46 with b4 | ⟨b4, b6⟩
    all_goals
     go_wp2_with fail
     refine HC2.out.mono ?_
     rintro e w2 ⟨rfl, rfl⟩
     go_wp2
     go_roundw
     case rel => exact ⟨k + 1, by omega, by go_num, _, HG3, Lib.hid (bset HBX.out (p := ⟨w.heap.size, o.f4.toNat, none⟩) HBN.out (.int .i64 1))⟩
     case measure => simp [intOf]; omega
   ·have b5 : (o.f0 == 5) = false := beq_eq_false_iff_ne.2 (by omega)
    have b4 : (o.f0 == 4) = false := beq_eq_false_iff_ne.2 (by omega)
    have b6 : (o.f0 == 6) = false := beq_eq_false_iff_ne.2 (by omega)
    rw [← t0 h0] at HGA
    clear HG k4 k5 t5 t4 t0 h0
    go_wp2
    go_roundw
    case rel => exact ⟨k + 1, by omega, by go_num, _, HGA, HBX⟩
    case measure => simp [intOf]; omega
  ·have hke : k = s.l.length := by omega
   subst hke
   have hg := HG.out
   rw [List.take_length, ← kpM_zero] at hg
   have HG1 := Lib.hid hg
   clear hg HG hlt
   have f2 := HFX.out wr HB.out
   obtain ⟨wm, hwm⟩ : ∃ wm, wm = wr := ⟨_, rfl⟩
   subst hwm
   generalize hGB : w.heap.size + 1 = gb at *
   clear hGB
   go_wp2
   go_loopw [58] (fun i wr => ∃ n : Nat, n ≤ B.exits.length ∧ i = .int .i64 n ∧ ∃ M v2, Hid (GeS w0.heap.size w.heap.size M B wr gs gc gb w.heap.size v0 (.slice At s.tv.length ct) (.slice A1 s.l.length c1) v2 0 s.l s.tv ((keptX (nmdB s.l s.last) B.exits n).map (exN s.tv)) (kpM (nmdB s.l s.last) B.exits.length n)) ∧ Hid (Below w0.heap.size w0 wr)) (fun i _ => B.exits.length - (intOf i).toNat)
   case atStart => exact ⟨0, Nat.zero_le _, rfl, M, _, HG1, HB⟩
   case round =>
    clear HG1 HB f2
    obtain ⟨n, hn, rfl, M, v2, HG, HB⟩ := hrel
    by_cases hlt : n < B.exits.length
    ·obtain ⟨ad, A4, c4, had, d0, d1, d2, d3, d4, l4, k4⟩ := at_T73 HKX.out (n : Int) (by omega) (by omega)
     cases had
     have hq : qJ B.exits (n : Int) = B.exits[n] := by simp [qJ, hlt]
     have hx := HOK.out.exits n hlt
     have hm4 := HM.out _ (List.getElem_mem hlt)
     have hkx := keptX_succ (nmdB s.l s.last) B.exits n hlt
     have hkw := HG.out.kc (kpM_now (nmdB s.l s.last) B.exits.length n hlt)
     rw [← hq] at hx hm4 hkx
     replace d0 := cellk HB.out d0
     replace d1 := cellk HB.out d1
     replace d2 := cellk HB.out d2
     replace d3 := cellk HB.out d3
     replace d4 := cellk HB.out d4
     simp only [Int.toNat_natCast] at d0 d1 d2 d3 d4
     have HK4 := Lib.hid k4
     clear hq k4
     generalize qJ B.exits (n : Int) = x at *
     have hkl : w.heap.size < wr.heap.size := Nat.lt_of_lt_of_le HG.out.mkk HG.out.hM
     have hbl : gb < wr.heap.size := Nat.lt_of_lt_of_le HG.out.mb HG.out.hM
     have hsl : gs < wr.heap.size := Nat.lt_of_lt_of_le HG.out.ms HG.out.hM
     have hcl : gc < wr.heap.size := Nat.lt_of_lt_of_le HG.out.mc HG.out.hM
     have hkn : ¬ w.heap.size = wr.heap.size := by have := HG.out.mkk; have := HG.out.hM; omega
     have hbn : ¬ gb = wr.heap.size := by have := HG.out.mb; have := HG.out.hM; omega
     have hsn : ¬ gs = wr.heap.size := by have := HG.out.ms; have := HG.out.hM; omega
     have hcn : ¬ gc = wr.heap.size := by have := HG.out.mc; have := HG.out.hM; omega
     have b0 := HG.out.b0
     have s0 := HG.out.s0
     have c2 := HG.out.c2
     have fk := HG.out.fk n
     obtain ⟨A2, cc2, rfl, hl2, -⟩ := Kd.R_reads HG.out.x
     rw [List.length_map, keptX_len _ _ _ hn] at c2 hl2
     have hlen : ((keptX (nmdB s.l s.last) B.exits n).map (exN s.tv)).length = plcN (nmdB s.l s.last) n := by rw [List.length_map, keptX_len _ _ _ hn]
     have bx := qD wr (.cells #[.int .i64 x.f0, .int .u32 x.f1, .int .i64 x.f2, .int .i64 x.f3, .slice A4 x.f4.length c4] 73)
     rcases Bool.eq_false_or_eq_true (nmdB s.l s.last (n : Int)) with hnm | hnm
     ·rw [if_pos hnm] at hkx hkw
      obtain ⟨hx2, hx4⟩ := hx hnm
      have hbl0 := bal (Below.refl wr.heap.size wr) (.cells #[.int .i64 x.f0, .int .u32 x.f1, .int .i64 x.f2, .int .i64 x.f3, .slice A4 x.f4.length c4] 73)
      have hg1 := (HG.out.raise (M' := wr.heap.size) HG.out.hM (Nat.le_refl _)).below hbl0
      have HB1 := Lib.hid (bal HB.out (.cells #[.int .i64 x.f0, .int .u32 x.f1, .int .i64 x.f2, .int .i64 x.f3, .slice A4 x.f4.length c4] 73))
      have b0' := cellk hbl0 b0
      have s0' := cellk hbl0 s0
      have c2' := cellk hbl0 c2
      have hkw' := cellk hbl0 hkw
      have fk' := hg1.fk n
      obtain ⟨wm, hwm⟩ : ∃ wm, wm = wr := ⟨_, rfl⟩
      subst hwm
      have hlm : w0.heap.size ≤ wm.heap.size := HB.out.size
      go_upto_region 17 with fail
      generalize hV : wm.alloc (.cells #[.int .i64 x.f0, .int .u32 x.f1, .int .i64 x.f2, .int .i64 x.f3, .slice A4 x.f4.length c4] 73) = V at *
      have hg2 := (hg1.below (qc (Below.refl wm.heap.size V) 1)).setK n (plcN (nmdB s.l s.last) n : Int)
      rw [kpM_set _ _ _ hnm, hlen] at hg2
      have HG2 := Lib.hid hg2
      have HB2 := Lib.hid (bset (qc HB1.out 1) (p := ⟨w.heap.size, n, none⟩) HBN.out (.int .i64 (plcN (nmdB s.l s.last) n : Int)))
      clear hx hg1 hg2 hnm HG hV hbl0 b0 s0 c2 hkw fk HB1
      go_cut [] from 68 to 78 (fun wx => Hid (GeS w0.heap.size w.heap.size wm.heap.size B wx gs gc gb w.heap.size v0 (.slice At s.tv.length ct) (.slice A1 s.l.length c1) (.slice A2 (plcN (nmdB s.l s.last) n) cc2) 0 s.l s.tv ((keptX (nmdB s.l s.last) B.exits n).map (exN s.tv)) (kpM (nmdB s.l s.last) B.exits.length (n + 1))) ∧ wx.heap[wm.heap.size]? = some (.cells #[.int .i64 x.f0, .int .u32 x.f1, .int .i64 x.f2, .int .i64 x.f3, .slice A4 x.f4.length c4] 73 (0, 0)) ∧ Hid (Below w0.heap.size w0 wx))
      case first =>
       go_still_tail 11, (by kernel_rfl)
       go_wp2_with fail
       go_meet
       exact ⟨HG2, qp bx (fun e => hkn e.symm) _, HB2⟩
      case rest =>
       clear HG2 HB2 bx hkw' b0' s0' c2' fk' d0 d1 d2 d3 d4
       obtain ⟨HG2, bx2, HB2⟩ := hcut
       have y4 : wc.cell? ⟨wm.heap.size, 4, none⟩ = some (.slice A4 x.f4.length c4) := by rw [qb bx2]; rfl
       have hwc := qG bx2
       have HK5 := Lib.hid (clone_v A4 c4 x.f4.length x.f4 hm4 wc (Kd.qn HK4.out HB2.out))
       clear HK4
       go_upto_region 18 with fail
       go_cut [] from 79 to 82 (fun wx => ∃ Av cv, Hid (Kd.R k70 70 wx wm.heap.size (fun k => wm.heap.size ≤ k) (.slice Av x.f4.length cv) x.f4) ∧ wx.heap[wm.heap.size]? = some (.cells #[.int .i64 x.f0, .int .u32 x.f1, .int .i64 x.f2, .int .i64 x.f3, .slice Av x.f4.length cv] 73 (0, 0)) ∧ Hid (GeS w0.heap.size w.heap.size wm.heap.size B wx gs gc gb w.heap.size v0 (.slice At s.tv.length ct) (.slice A1 s.l.length c1) (.slice A2 (plcN (nmdB s.l s.last) n) cc2) 0 s.l s.tv ((keptX (nmdB s.l s.last) B.exits n).map (exN s.tv)) (kpM (nmdB s.l s.last) B.exits.length (n + 1))) ∧ Hid (Below w0.heap.size w0 wx))
       case first =>
        go_wp2_with fail
        refine HK5.out.mono ?_
        rintro e w3 ⟨⟨v, rfl, hr⟩, hb3⟩
        obtain ⟨Av, cv, rfl⟩ := Kd.R_slice hr
        have b3 := qo bx2 hb3
        have z4 : w3.cell? ⟨wm.heap.size, 4, none⟩ = some (.slice A4 x.f4.length c4) := by rw [qb b3]; rfl
        have zf := qa b3 4
        have HR3 := Lib.hid (Kd.R_set (Kd.R_lower (base' := wm.heap.size) (Kd.R_mono (Kd.R_bound hr) (ok' := fun k => wm.heap.size ≤ k) fun k hk => Nat.le_trans (Nat.le_of_lt hwc) hk.2.1) (Nat.le_of_lt hwc)) b3 (by decide) 4 (.slice Av x.f4.length cv))
        have HB3 := Lib.hid ((show Below wm.heap.size wc w3 from hb3.mono (Nat.le_of_lt hwc)).setCell (p := ⟨wm.heap.size, 4, none⟩) (Nat.le_refl _) (.slice Av x.f4.length cv))
        clear hr hb3
        go_wp2_with fail
        go_meet
        exact ⟨_, _, HR3, qC b3 4 _, Lib.hid (HG2.out.below HB3.out), Lib.hid (HB2.out.trans (HB3.out.mono hlm))⟩
       case rest =>
        clear HG2 HB2 bx2 y4 HK5 hwc
        obtain ⟨Av, cv, HR, bx, HG, HB⟩ := hcut
        have y4 : wc.cell? ⟨wm.heap.size, 4, none⟩ = some (.slice Av x.f4.length cv) := by rw [qb bx]; rfl
        go_wp2_with fail
        go_loopw [86] (fun j wr => ∃ m : Nat, m ≤ x.f4.length ∧ j = .int .i64 m ∧ Hid (Kd.R k70 70 wr wm.heap.size (fun k => wm.heap.size ≤ k) (.slice Av x.f4.length cv) (mixL (fun v => (⟨v.f0, rd s.tv v.f1⟩ : S70)) x.f4 m)) ∧ wr.heap[wm.heap.size]? = some (.cells #[.int .i64 x.f0, .int .u32 x.f1, .int .i64 x.f2, .int .i64 x.f3, .slice Av x.f4.length cv] 73 (0, 0)) ∧ Hid (GeS w0.heap.size w.heap.size wm.heap.size B wr gs gc gb w.heap.size v0 (.slice At s.tv.length ct) (.slice A1 s.l.length c1) (.slice A2 (plcN (nmdB s.l s.last) n) cc2) 0 s.l s.tv ((keptX (nmdB s.l s.last) B.exits n).map (exN s.tv)) (kpM (nmdB s.l s.last) B.exits.length (n + 1))) ∧ Hid (Below w0.heap.size w0 wr)) (fun j _ => x.f4.length - (intOf j).toNat)
        case atStart => exact ⟨0, Nat.zero_le _, rfl, Lib.hid (by rw [mixL_zero]; exact HR.out), bx, HG, HB⟩
        case round =>
         clear HR bx HG HB y4
         obtain ⟨m, hm, rfl, HR, bx, HG, HB⟩ := hrel
         have y4 : wr.cell? ⟨wm.heap.size, 4, none⟩ = some (.slice Av x.f4.length cv) := by rw [qb bx]; rfl
         have hml := mixL_length (fun v => (⟨v.f0, rd s.tv v.f1⟩ : S70)) x.f4 m hm
         by_cases hlt3 : m < x.f4.length
         ·have hy := mixL_get (fun v => (⟨v.f0, rd s.tv v.f1⟩ : S70)) x.f4 m hlt3
          have hset := mixL_set (fun v => (⟨v.f0, rd s.tv v.f1⟩ : S70)) x.f4 m hlt3
          obtain ⟨b1, b2⟩ := hx4 x.f4[m] (List.getElem_mem hlt3)
          generalize x.f4[m] = y at *
          generalize mixL (fun v => (⟨v.f0, rd s.tv v.f1⟩ : S70)) x.f4 m = ys at *
          obtain ⟨gv, cap, hv, hvN, hvl, cells, hvc⟩ := Kd.R_form HR.out (by omega)
          rw [hml] at hv
          cases hv
          obtain ⟨ad, had, -, d1⟩ := at_T70 (Kd.R_reads' HR.out).2.2 (m : Int) (by omega) (by omega)
          cases had
          rw [show rd_T70 ys (m : Int) = y by unfold rd_T70; rw [List.getD_eq_getElem?_getD, Int.toNat_natCast, hy]; rfl] at d1
          simp only [qI, Int.toNat_natCast] at d1
          obtain ⟨g2, rfl, dt, -⟩ := HG.out.tocell _ b1 b2
          have s0 := HG.out.s0
          have s1 := HG.out.s1
          have fv := qa hvc (m * 2 + 1)
          have hr2 := R_val_set (Kd.qO HR.out (bdn (Below.refl _ _) 1)) hy (rd s.tv y.f1)
          rw [hset] at hr2
          have HR2 := Lib.hid hr2
          have bx2 := qp (p := ⟨gv, m * 2 + 1, none⟩) (qo bx (bdn (Below.refl _ _) 1)) (blk_ne bx hvc (by decide)) (.int .i64 (rd s.tv y.f1))
          have HG2 := Lib.hid (HG.out.below ((qc (Below.refl wm.heap.size wr) 1).setCell (p := ⟨gv, m * 2 + 1, none⟩) hvN (.int .i64 (rd s.tv y.f1))))
          have HB2 := Lib.hid (bset (qc HB.out 1) (p := ⟨gv, m * 2 + 1, none⟩) (Nat.le_trans hlm hvN) (.int .i64 (rd s.tv y.f1)))
          clear hr2 hset hy HR HG HB bx hvc
          go_wp2_with fail
          go_still_tail 17, (by kernel_rfl)
          go_wp2
          go_roundw
          case rel => exact ⟨m + 1, by omega, by go_num, HR2, bx2, HG2, HB2⟩
          case measure => simp [intOf]; omega
         ·have hme : m = x.f4.length := by omega
          subst hme
          have hr := HR.out
          rw [mixL_all] at hr
          have HR := Lib.hid hr
          clear hr hml
          have y2 : wr.cell? ⟨wm.heap.size, 2, none⟩ = some (.int .i64 x.f2) := by rw [qb bx]; rfl
          have yf := qa bx 2
          obtain ⟨T, hT⟩ : ∃ T, T = (if x.f2 = -1 then (-1 : Int) else rd s.tv x.f2) := ⟨_, rfl⟩
          go_upto_if 109 with fail
          go_cut [] from 109 to 118 (fun wx => Hid (Kd.R k70 70 wx wm.heap.size (fun k => wm.heap.size ≤ k) (.slice Av x.f4.length cv) (x.f4.map (fun v => (⟨v.f0, rd s.tv v.f1⟩ : S70)))) ∧ wx.heap[wm.heap.size]? = some (.cells #[.int .i64 x.f0, .int .u32 x.f1, .int .i64 T, .int .i64 x.f3, .slice Av x.f4.length cv] 73 (0, 0)) ∧ Hid (GeS w0.heap.size w.heap.size wm.heap.size B wx gs gc gb w.heap.size v0 (.slice At s.tv.length ct) (.slice A1 s.l.length c1) (.slice A2 (plcN (nmdB s.l s.last) n) cc2) 0 s.l s.tv ((keptX (nmdB s.l s.last) B.exits n).map (exN s.tv)) (kpM (nmdB s.l s.last) B.exits.length (n + 1))) ∧ Hid (Below w0.heap.size w0 wx))
          case first =>
           by_cases h2 : x.f2 = -1
           ·rw [if_pos h2, ← h2] at hT
            subst hT
            have t2 : (x.f2 != -1) = false := by rw [h2]; rfl
            clear hx2 h2
            go_wp2_with fail
            go_meet
            exact ⟨HR, bx, HG, HB⟩
           ·obtain ⟨b1, b2⟩ := hx2.resolve_left h2
            rw [if_neg h2] at hT
            obtain ⟨g2, rfl, dt, -⟩ := HG.out.tocell _ b1 b2
            rw [← hT] at dt
            have s0 := HG.out.s0
            have s1 := HG.out.s1
            have t2 : (x.f2 != -1) = true := bne_iff_ne.2 h2
            have HR2 := Lib.hid (Kd.R_set (Kd.qO HR.out (bdn (Below.refl _ _) 1)) (qo bx (bdn (Below.refl _ _) 1)) (by decide) 2 (.int .i64 T))
            have bx2 := qC (qo bx (bdn (Below.refl _ _) 1)) 2 (.int .i64 T)
            have HG2 := Lib.hid (HG.out.below ((qc (Below.refl wm.heap.size wr) 1).setCell (p := ⟨wm.heap.size, 2, none⟩) (Nat.le_refl _) (.int .i64 T)))
            have HB2 := Lib.hid (bset (qc HB.out 1) (p := ⟨wm.heap.size, 2, none⟩) hlm (.int .i64 T))
            clear hx2 h2 HR HG HB bx hT
            go_wp2_with fail
            go_still_tail 9, (by kernel_rfl)
            go_wp2_with fail
            go_meet
            exact ⟨HR2, bx2, HG2, HB2⟩
          case rest =>
           clear HR bx HG HB y4 y2 yf hx2
           obtain ⟨HR, bx, HG, HB⟩ := hcut
           have y0 : wc.cell? ⟨wm.heap.size, 0, none⟩ = some (.int .i64 x.f0) := by rw [qb bx]; rfl
           have y1 : wc.cell? ⟨wm.heap.size, 1, none⟩ = some (.int .u32 x.f1) := by rw [qb bx]; rfl
           have y2 : wc.cell? ⟨wm.heap.size, 2, none⟩ = some (.int .i64 T) := by rw [qb bx]; rfl
           have y3 : wc.cell? ⟨wm.heap.size, 3, none⟩ = some (.int .i64 x.f3) := by rw [qb bx]; rfl
           have y4 : wc.cell? ⟨wm.heap.size, 4, none⟩ = some (.slice Av x.f4.length cv) := by rw [qb bx]; rfl
           have s0 := HG.out.s0
           have c2 := HG.out.c2
           have hlx := qG bx
           have hls := Nat.lt_of_lt_of_le HG.out.ms HG.out.hM
           have hlg := Nat.lt_of_lt_of_le HG.out.mc HG.out.hM
           have hn1 : ¬ gs = wc.heap.size := by omega
           have hn2 : ¬ gc = wc.heap.size := by omega
           have hn3 : ¬ wm.heap.size = wc.heap.size := by omega
           have HX := Lib.hid (HG.out.below (qc (Below.refl wm.heap.size wc) 1))
           have HXR := Lib.hid (Kd.R_mono HX.out.x (ok' := fun _ => True) fun _ _ => trivial)
           have HXO := Lib.hid HX.out.x.1
           have HRm := Lib.hid (Kd.R_lower (Kd.qO HR.out (bdn (Below.refl _ _) 1)) hlm)
           have HBx := Lib.hid (qc HB.out 1)
           have HPL := Lib.hid (show (((keptX (nmdB s.l s.last) B.exits n).map (exN s.tv)).length + 1) * 56 ≤ 140737488355328 by rw [hlen]; have := plcN_le (nmdB s.l s.last) n; omega)
           have HKX2 := Lib.hid (show (keptX (nmdB s.l s.last) B.exits (n + 1)).map (exN s.tv) = (keptX (nmdB s.l s.last) B.exits n).map (exN s.tv) ++ [exN s.tv x] by rw [hkx, List.map_append]; rfl)
           have HYE := Lib.hid (show exN s.tv x = ⟨x.f0, x.f1, T, x.f3, x.f4.map (fun v => (⟨v.f0, rd s.tv v.f1⟩ : S70))⟩ by rw [hT]; rfl)
           have HYL := Lib.hid (show (exN s.tv x).f4.length = x.f4.length from List.length_map _)
           obtain ⟨Ln, hLn⟩ : ∃ Ln, ((keptX (nmdB s.l s.last) B.exits n).map (exN s.tv) ++ [(⟨x.f0, x.f1, T, x.f3, x.f4.map (fun v => (⟨v.f0, rd s.tv v.f1⟩ : S70))⟩ : S73)]).length = Ln := ⟨_, rfl⟩
           have HLN := Lib.hid hLn
           clear HR bx HG hx4 hkx hT hLn
           go_wp2_with fail
           go_region_law (refine Kd.R_append_step k73 (w0 := w0) w0.heap.size rfl (.tmp 129) (.tmp 131) 74 73 (.agg #[.int .i64 0, .int .u32 0, .int .i64 0, .int .i64 0, .slice none 0 0]) 56 rfl Try.underlying74 infoExit rfl (by decide) (by decide) (.slice A2 (plcN (nmdB s.l s.last) n) cc2) ((keptX (nmdB s.l s.last) B.exits n).map (exN s.tv)) ⟨x.f0, x.f1, T, x.f3, x.f4.map (fun v => (⟨v.f0, rd s.tv v.f1⟩ : S70))⟩ [.int .i64 x.f0, .int .u32 x.f1, .int .i64 T, .int .i64 x.f3, .slice Av x.f4.length cv] (fun _ => True) (fun k => wm.heap.size ≤ k) rfl rfl (k73_mkM _ _ _ _ HRm.out) (fun k hk => ⟨trivial, fun e => absurd (HXO.out k e.symm) (Nat.not_lt.2 hk)⟩) (fun _ _ => trivial) HXR.out HBx.out HBx.out.size HPL.out ?_; intro v3 w3 ho3 hb3 hg3 hat3; obtain ⟨A3, c3, hv3⟩ := Kd.R_slice ho3; rw [HLN.out] at hv3; subst hv3; have HS3 := Lib.hid (HX.out.over ho3 hg3); have e5 := HS3.out.c2; have e6 := HS3.out.fc 2; have e7 := HS3.out.s0; have HB3 := Lib.hid hb3; clear ho3 hb3 hg3 hat3)
           all_goals
            go_wp2
            go_roundw
            case rel => exact ⟨n + 1, by omega, by go_num, _, _, Lib.hid (by rw [HKX2.out, HYE.out]; exact HS3.out.done), Lib.hid (HB3.out.setCell HS3.out.nc _)⟩
            case measure => simp [intOf]; omega
     ·rw [if_neg (by rw [hnm]; decide)] at hkx hkw
      rw [List.append_nil] at hkx
      have hsk := kpM_skip (nmdB s.l s.last) B.exits.length n hnm
      have hg := HG.out.below ((bal (Below.refl wr.heap.size wr) (.cells #[.int .i64 x.f0, .int .u32 x.f1, .int .i64 x.f2, .int .i64 x.f3, .slice A4 x.f4.length c4] 73)).mono HG.out.hM)
      rw [hsk, ← hkx] at hg
      have HG2 := Lib.hid hg
      have HB2 := Lib.hid (bal HB.out (.cells #[.int .i64 x.f0, .int .u32 x.f1, .int .i64 x.f2, .int .i64 x.f3, .slice A4 x.f4.length c4] 73))
      clear hx hm4 hkx hnm HK4 hsk hg HG bx hlen
      go_wp2
      go_roundw
      case rel => exact ⟨n + 1, by omega, by go_num, M, _, HG2, HB2⟩
      case measure => simp [intOf]; omega
    ·have hke : n = B.exits.length := by omega
     subst hke
     have kl := HG.out.kc (kpM_end (nmdB s.l s.last) B.exits.length s.last HOK.out.la.1 HOK.out.la.2 (nmdB_last _ _))
     have b0 := HG.out.b0
     have s0 := HG.out.s0
     have fc := HG.out.fc 3
     have c3 := HG.out.c3
     obtain ⟨q1, q2⟩ := HOK.out.la
     have HG2 := Lib.hid ((HG.out.setLast (pxI (nmdB s.l s.last) s.last)).below (qL (Below.refl M (wr.setCell ⟨gc, 3, none⟩ (.int .i64 (pxI (nmdB s.l s.last) s.last))))))
     have HB2 := Lib.hid (qL (HB.out.setCell (p := ⟨gc, 3, none⟩) HG.out.nc (.int .i64 (pxI (nmdB s.l s.last) s.last))))
     generalize hKX : keptX (nmdB s.l s.last) B.exits B.exits.length = KX at *
     generalize hPL : pxI (nmdB s.l s.last) s.last = PL at *
     clear HG HB hlt
     obtain ⟨wm, hwm⟩ : ∃ wm, wm = wr := ⟨_, rfl⟩
     subst hwm
     go_upto_region 28 with fail
     go_cut [] from 136 to 145 (fun wx => Hid (GeS w0.heap.size w.heap.size M B wx gs gc gb w.heap.size v0 (.slice At s.tv.length ct) (.slice A1 s.l.length c1) v2 PL s.l s.tv (KX.map (exN s.tv)) (kpM (nmdB s.l s.last) B.exits.length B.exits.length)) ∧ Hid (Below w0.heap.size w0 wx))
     case first =>
      go_still_tail 10, (by kernel_rfl)
      go_wp2_with fail
      go_meet
      exact ⟨HG2, HB2⟩
     case rest =>
      clear HG2 HB2 kl b0 s0 fc c3
      obtain ⟨HG2, HB2⟩ := hcut
      have s0 := HG2.out.s0
      have e1 := HG2.out.c1
      go_wp2
      go_loopw [154] (fun i wr => ∃ k : Nat, k ≤ s.l.length ∧ i = .int .i64 k ∧ Hid (GeS w0.heap.size w.heap.size M B wr gs gc gb w.heap.size v0 (.slice At s.tv.length ct) (.slice A1 s.l.length c1) v2 PL (mixL (reO (pxI (nmdB s.l s.last))) s.l k) s.tv (KX.map (exN s.tv)) (kpM (nmdB s.l s.last) B.exits.length B.exits.length)) ∧ Hid (Below w0.heap.size w0 wr)) (fun i _ => s.l.length - (intOf i).toNat)
      case atStart => exact ⟨0, Nat.zero_le _, rfl, Lib.hid (by rw [mixL_zero]; exact HG2.out), HB2⟩
      case round =>
       clear HG2 HB2 s0 e1
       obtain ⟨k, hk, rfl, HG, HB⟩ := hrel
       have s0 := HG.out.s0
       have e1 := HG.out.c1
       have b0 := HG.out.b0
       have hml := mixL_length (reO (pxI (nmdB s.l s.last))) s.l k hk
       by_cases hlt : k < s.l.length
       ·have hy := mixL_get (reO (pxI (nmdB s.l s.last))) s.l k hlt
        have hset := mixL_set (reO (pxI (nmdB s.l s.last))) s.l k hlt
        have hset0 := mixL_set0 (reO (pxI (nmdB s.l s.last))) s.l k hlt
        obtain ⟨⟨k1, k6⟩, k4, k5⟩ := HOK.out.ops k hlt
        generalize s.l[k] = o at *
        generalize mixL (reO (pxI (nmdB s.l s.last))) s.l k = ys at *
        obtain ⟨g1, cap, hv, -, -, -, -⟩ := Kd.R_form HG.out.l (by omega)
        rw [hml] at hv
        cases hv
        obtain ⟨hgN, hgf⟩ := HG.out.block (by omega)
        obtain ⟨ad, had, d0, -, -, -, d4, d5⟩ := at_T67 (Kd.R_reads' HG.out.l).2.2 (k : Int) (by omega) (by omega)
        cases had
        rw [show qz ys (k : Int) = o by unfold qz; rw [List.getD_eq_getElem?_getD, Int.toNat_natCast, hy]; rfl] at d0 d4 d5
        simp only [qI, Int.toNat_natCast] at d0 d4 d5
        have f4 := hgf (k * 6 + 4)
        have f5 := hgf (k * 6 + 5)
        obtain ⟨wn, hwn⟩ : ∃ wn, wn = wr := ⟨_, rfl⟩
        subst hwn
        have HYP := Lib.hid (show 0 < ys.length by omega)
        have HKC := Lib.hid (fun (v : World) (LL : List S67) (h : GeS w0.heap.size w.heap.size M B v gs gc gb w.heap.size v0 (.slice At s.tv.length ct) (.slice (some ⟨g1, 0, none⟩) s.l.length c1) v2 PL LL s.tv (KX.map (exN s.tv)) (kpM (nmdB s.l s.last) B.exits.length B.exits.length)) (m : Int) (h0 : 0 ≤ m) (h1 : m < (B.exits.length : Int)) (hm : nmdB s.l s.last m = true) => h.kc (kpM_end (nmdB s.l s.last) B.exits.length m h0 h1 hm))
        clear hml
        rcases (by omega : o.f0 = 5 ∨ (o.f0 = 4 ∨ o.f0 = 6) ∨ o.f0 < 4) with q5 | q4 | q0
        ·have t5 : (o.f0 == 5) = true := beq_iff_eq.2 q5
         obtain ⟨⟨m1, m2⟩, m3⟩ := k4 (by omega)
         obtain ⟨⟨n1, n2⟩, n3⟩ := k5 q5
         have kl := HKC.out wn ys HG.out o.f5 n1 n2 n3
         have hre : reO (pxI (nmdB s.l s.last)) o = ⟨o.f0, o.f1, o.f2, o.f3, pxI (nmdB s.l s.last) o.f4, pxI (nmdB s.l s.last) o.f5⟩ := by unfold reO; rw [if_pos (by omega), if_pos q5]
         rw [hre] at hset
         clear k4 k5 hset0 q5 hre k1 k6
         generalize pxI (nmdB s.l s.last) o.f5 = P5 at *
         have HG2 := Lib.hid (GeS.below (HG.out.setOp (k * 6 + 5) (.int .i64 P5) (R_op_set5 HG.out.l hy P5) HYP.out) (qL (Below.refl M (wn.setCell ⟨g1, k * 6 + 5, none⟩ (.int .i64 P5)))))
         have HB2 := Lib.hid (qL (HB.out.setCell (p := ⟨g1, k * 6 + 5, none⟩) hgN (.int .i64 P5)))
         go_wp2_with fail
         go_still_tail 10, (by kernel_rfl)
         go_wp2_with fail
         generalize hV : (wn.setCell ⟨g1, k * 6 + 5, none⟩ (.int .i64 P5)).drew = wc at *
         clear hV
         clear kl HG HB d0 d4 d5 f4 f5 b0 s0 e1 hgf
         have HG := HG2
         have HB := HB2
         clear HG2 HB2
         have hyk := (List.getElem?_eq_some_iff.1 hy).1
         have hy2 : (ys.set k ⟨o.f0, o.f1, o.f2, o.f3, o.f4, P5⟩)[k]? = some ⟨o.f0, o.f1, o.f2, o.f3, o.f4, P5⟩ := List.getElem?_set_self hyk
         have b0 := HG.out.b0
         have hgf2 := (HG.out.block (by rw [List.length_set]; exact HYP.out)).2
         have kl := HKC.out wc _ HG.out o.f4 m1 m2 m3
         obtain ⟨ad, had, d0, -, -, -, d4, -⟩ := at_T67 (Kd.R_reads' HG.out.l).2.2 (k : Int) (by omega) (by first | exact Int.ofNat_lt.2 hlt | exact Int.ofNat_lt.2 hyk | (rw [List.length_set]; exact Int.ofNat_lt.2 hyk))
         cases had
         rw [show qz (ys.set k ⟨o.f0, o.f1, o.f2, o.f3, o.f4, P5⟩) (k : Int) = ⟨o.f0, o.f1, o.f2, o.f3, o.f4, P5⟩ by unfold qz; rw [List.getD_eq_getElem?_getD, Int.toNat_natCast, hy2]; rfl] at d0 d4
         simp only [qI, Int.toNat_natCast] at d0 d4
         have f4 := hgf2 (k * 6 + 4)
         have hr := R_op_set4 HG.out.l hy2 (pxI (nmdB s.l s.last) o.f4)
         rw [List.set_set] at hr
         have hge := HG.out.setOp (k * 6 + 4) (.int .i64 (pxI (nmdB s.l s.last) o.f4)) hr (by rw [List.length_set]; exact HYP.out)
         rw [hset] at hge
         generalize pxI (nmdB s.l s.last) o.f4 = P4 at *
         have HG2 := Lib.hid (GeS.below hge (qL (Below.refl M (wc.setCell ⟨g1, k * 6 + 4, none⟩ (.int .i64 P4)))))
         have HB2 := Lib.hid (qL (HB.out.setCell (p := ⟨g1, k * 6 + 4, none⟩) hgN (.int .i64 P4)))
         clear hr hge hset hy hy2 HG HB
         go_wp2_with fail
         go_still_tail 10, (by kernel_rfl)
         go_wp2
         go_roundw
         case rel => exact ⟨k + 1, by omega, by go_num, HG2, HB2⟩
         case measure => simp [intOf]; omega
        ·have t5 : (o.f0 == 5) = false := beq_eq_false_iff_ne.2 (by omega)
         obtain ⟨⟨m1, m2⟩, m3⟩ := k4 (by omega)
         have kl := HKC.out wn ys HG.out o.f4 m1 m2 m3
         have hre : reO (pxI (nmdB s.l s.last)) o = ⟨o.f0, o.f1, o.f2, o.f3, pxI (nmdB s.l s.last) o.f4, o.f5⟩ := by unfold reO; rw [if_pos (by omega), if_neg (by omega)]
         rw [hre] at hset
         have hge := HG.out.setOp (k * 6 + 4) (.int .i64 (pxI (nmdB s.l s.last) o.f4)) (R_op_set4 HG.out.l hy _) HYP.out
         rw [hset] at hge
         generalize pxI (nmdB s.l s.last) o.f4 = P4 at *
         have HG2 := Lib.hid (GeS.below hge (qL (Below.refl M (wn.setCell ⟨g1, k * 6 + 4, none⟩ (.int .i64 P4)))))
         have HB2 := Lib.hid (qL (HB.out.setCell (p := ⟨g1, k * 6 + 4, none⟩) hgN (.int .i64 P4)))
         have h46 : (o.f0 == 4) = true ∨ ((o.f0 == 4) = false ∧ (o.f0 == 6) = true) := by
          rcases q4 with h | h
          ·exact .inl (beq_iff_eq.2 h)
          ·exact .inr ⟨beq_eq_false_iff_ne.2 (by omega), beq_iff_eq.2 h⟩
         clear hge hset hy HG HB k4 k5 hset0 q4 hre k1 k6
         rcases h46 with b4 | ⟨b4, b6⟩
         all_goals
          go_wp2_with fail
          go_still_tail 10, (by kernel_rfl)
          go_wp2
          go_roundw
          case rel => exact ⟨k + 1, by omega, by go_num, HG2, HB2⟩
          case measure => simp [intOf]; omega
        ·have t5 : (o.f0 == 5) = false := beq_eq_false_iff_ne.2 (by omega)
         have t4 : (o.f0 == 4) = false := beq_eq_false_iff_ne.2 (by omega)
         have t6 : (o.f0 == 6) = false := beq_eq_false_iff_ne.2 (by omega)
         have hre : reO (pxI (nmdB s.l s.last)) o = o := by unfold reO; rw [if_neg (by omega), if_neg (by omega)]
         rw [hre, hset0] at hset
         have HG2 := Lib.hid (show GeS w0.heap.size w.heap.size M B wn gs gc gb w.heap.size v0 (.slice At s.tv.length ct) (.slice (some ⟨g1, 0, none⟩) s.l.length c1) v2 PL (mixL (reO (pxI (nmdB s.l s.last))) s.l (k + 1)) s.tv (KX.map (exN s.tv)) (kpM (nmdB s.l s.last) B.exits.length B.exits.length) by rw [← hset]; exact HG.out)
         clear hset hset0 hy HG k4 k5 q0 hre k1 k6
         go_wp2
         go_roundw
         case rel => exact ⟨k + 1, by omega, by go_num, HG2, HB⟩
         case measure => simp [intOf]; omega
       ·have hke : k = s.l.length := by omega
        subst hke
        have hg := HG.out
        rw [mixL_all] at hg
        have HFIN := Lib.hid hg.fin
        clear hg HG
        go_wp2
        go_end0
        exact ⟨⟨rfl, Lib.hid (by rw [← hPL, ← hKX] at HFIN; exact HFIN.out), s0⟩, HB.out⟩
end Go.Proofs.Ythjgakoofmmloaa
