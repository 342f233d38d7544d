/- Proved: how a block of the document's, as an argument of a row, reads: its lists, and that its numbers are of their kinds. Conditions: it is an argument of its type. -/
import Derived.Test.YtlnbghhhifnbdaaDoorZIn0
import Derived.Test.YtlnbghhhifnbdaaDoorZRg
import Derived.Test.YtlnbghhhifnbdaaDoorZPIrTextsx0
import Derived.Test.YtlnbghhhifnbdaaDoorZPIrTextsx3
import Derived.Deep.RegionLaw
import Derived.Test.YtlnbghhhifnbdaaDoorZUb
import Derived.Test.YtlnbghhhifnbdaaDoorZPIrTextsx10
import Derived.Laws.BitsLemmas
import Derived.WalkSpells
import Derived.StillTactics
import Derived.Laws.Pointers
import Derived.Deep.RegionHeld3
import Derived.Deep.RegionWith
import Derived.Deep.QuietTactic
import Derived.Deep.LoopGhost
import Derived.BigQuiet
import Derived.KernelRfl
import Derived.Outline
import Derived.Lib.Hide
import Derived.Test.YtlnbghhhifnbdaaDoorZPIrTextsx8
import Derived.Test.YtlnbghhhifnbdaaDoorZPIrTextsx2
import Derived.Orders
import Derived.WalkKit
import Derived.Below
import Derived.Test.YtlnbghhhifnbdaaDoorRows
import Derived.ProofKit
import Derived.OpenShut
import Derived.Carry
import Derived.Deep.Slices
/- A block of package ir in memory; contracts of ir.Valued and of the judge's value. Conditions: the block reads as the given one. -/
namespace Go.Proofs.YtlnbghhhifnbdaaDoor
open Go.RowKit Go.Proofs.YtlnbghhhifnbdaaDoorW.PrintWords Go.Proofs.YtlnbghhhifnbdaaDoor.PIrTexts
set_option linter.unusedVariables false
set_option linter.unusedSimpArgs false

/-- A block of package ir. -/
structure BlkV where
  pcs : List Int
  ops : List S41
  exits : List S54
  last : Int
/-- A block stands at an address. -/
structure BlockAt (w : World) (g : Nat) (B : BlkV) : Prop where
  pcs : ∃ A c, w.cell? ⟨g, 0, none⟩ = some (.slice A B.pcs.length c) ∧ (Kd.int .u32).C w A B.pcs.length B.pcs
  ops : ∃ A c, w.cell? ⟨g, 1, none⟩ = some (.slice A B.ops.length c) ∧ k41.C w A B.ops.length B.ops
  exits : ∃ A c, w.cell? ⟨g, 2, none⟩ = some (.slice A B.exits.length c) ∧ k54.C w A B.exits.length B.exits
  last : w.cell? ⟨g, 3, none⟩ = some (.int .i64 B.last)
theorem cellk {w w1 : World} (h : Below w.heap.size w w1) {a : Addr} {v : Value} (hc : w.cell? a = some v) : w1.cell? a = some v := (h.cell (World.block_lt_of_cell? w a hc)).trans hc
theorem BlockAt.below {w w1 : World} {g : Nat} {B : BlkV} (h : BlockAt w g B) (hb : Below w.heap.size w w1) : BlockAt w1 g B := by
  obtain ⟨⟨A0, c0, h0, k0⟩, ⟨A1, c1, h1, k1⟩, ⟨A2, c2, h2, k2⟩, h3⟩ := h
  exact ⟨⟨A0, c0, cellk hb h0, Kd.C_below k0 hb⟩, ⟨A1, c1, cellk hb h1, Kd.C_below k1 hb⟩, ⟨A2, c2, cellk hb h2, Kd.C_below k2 hb⟩, cellk hb h3⟩
def valuedB (code : Int) : Bool := decide (1 ≤ code) && decide (code ≤ 4)
theorem valued_c (code : Int) (w : World) : Calls Tryd.prog 15 #[.int .i64 code] w fun e w' => e = .returned (.bool (valuedB code)) ∧ w = w' := by
  rcases (by omega : code < 1 ∨ (1 ≤ code ∧ code ≤ 4) ∨ 4 < code) with h | ⟨h, h'⟩ | h
  · go_enter Tryd.func15, Tryd.ntmps15
    go_wp2
    go_ret
    exact ⟨ret_b (by simp [valuedB]; omega), rfl⟩
  · go_enter Tryd.func15, Tryd.ntmps15
    go_wp2
    go_ret
    exact ⟨ret_b (by simp [valuedB]; omega), rfl⟩
  · go_enter Tryd.func15, Tryd.ntmps15
    go_wp2
    go_ret
    exact ⟨ret_b (by simp [valuedB]; omega), rfl⟩
def valB (B : BlkV) (n ahead : Int) : Bool := decide (0 ≤ n) && (decide (n < ahead) && (decide (n < (B.ops.length : Int)) && valuedB (rd_T41 B.ops n).f0))
theorem value_c (B : BlkV) (g : Nat) (n ahead : Int) (w : World) (hB : BlockAt w g B) :
    Calls Tryd.prog 64 #[.agg #[.pointer (some ⟨g, 0, none⟩)], .int .i64 n, .int .i64 ahead] w fun e w' => e = .returned (.bool (valB B n ahead)) ∧ Below w.heap.size w w' := by
  obtain ⟨A1, c1, h1, k1⟩ := hB.ops
  have hg : g < w.heap.size := World.block_lt_of_cell? w ⟨g, 1, none⟩ h1
  have hg2 : ¬ g = w.heap.size := by omega
  by_cases q0 : 0 ≤ n
  case neg =>
    have e : valB B n ahead = false := by simp [valB]; omega
    rw [e]
    clear k1 hB e
    go_enter Tryd.func64, Tryd.ntmps64
    go_wp2
    go_ret
    exact ⟨rfl, bal (Below.refl _ _) _⟩
  by_cases q1 : n < ahead
  case neg =>
    have e : valB B n ahead = false := by simp [valB]; omega
    rw [e]
    clear k1 hB e
    go_enter Tryd.func64, Tryd.ntmps64
    go_wp2
    go_ret
    exact ⟨rfl, bal (Below.refl _ _) _⟩
  by_cases q2 : n < (B.ops.length : Int)
  case neg =>
    have e : valB B n ahead = false := by simp [valB]; omega
    rw [e]
    clear k1 hB e
    go_enter Tryd.func64, Tryd.ntmps64
    go_wp2
    go_ret
    exact ⟨rfl, bal (Below.refl _ _) _⟩
  obtain ⟨ad, rfl, d0, -⟩ := at_T41 k1 n q0 q2
  have hd : (ad.add (n.toNat * 6)).block < w.heap.size := World.block_lt_of_cell? w _ d0
  have hd2 : ¬ (ad.add (n.toNat * 6)).block = w.heap.size := by omega
  have e : valB B n ahead = valuedB (rd_T41 B.ops n).f0 := by simp [valB, q0, q1, q2]
  rw [e]
  have d1 := cellk (bal (Below.refl w.heap.size w) (.cells #[.pointer (some ⟨g, 0, none⟩)] 61)) d0
  generalize (rd_T41 B.ops n).f0 = code at *
  have HV := Lib.hid (fun v => valued_c code v)
  clear k1 hB e
  go_enter Tryd.func64, Tryd.ntmps64
  go_wp2_with fail
  refine (HV.out _).mono ?_
  rintro e w' ⟨rfl, rfl⟩
  go_wp2
  go_ret
  exact ⟨rfl, bal (Below.refl _ _) _⟩
end Go.Proofs.YtlnbghhhifnbdaaDoor

/- Contracts of the judge's exit, of its closure, and of the library's two functions that go over a map with it. Conditions: the block reads as the given one. -/
namespace Go.Proofs.YtlnbghhhifnbdaaDoor
open Go.RowKit Go.Proofs.YtlnbghhhifnbdaaDoorW.PrintWords Go.Proofs.YtlnbghhhifnbdaaDoor.PIrTexts
set_option linter.unusedVariables false
set_option linter.unusedSimpArgs false

theorem exitfn_c (B : BlkV) (g : Nat) (reg val ahead : Int) (b1 b2 : Nat) (w : World) (hB : BlockAt w g B) (h1 : w.cell? ⟨b1, 0, none⟩ = some (.pointer (some ⟨g, 0, none⟩))) (h2 : w.cell? ⟨b2, 0, none⟩ = some (.int .i64 ahead)) :
    Calls Tryd.prog 67 #[.agg #[.int .i64 reg, .int .i64 val], .pointer (some ⟨b1, 0, none⟩), .pointer (some ⟨b2, 0, none⟩)] w fun e w' => e = .returned (.bool (!valB B val ahead)) ∧ Below w.heap.size w w' := by
  have hl1 : b1 < w.heap.size := World.block_lt_of_cell? w ⟨b1, 0, none⟩ h1
  have hl2 : b2 < w.heap.size := World.block_lt_of_cell? w ⟨b2, 0, none⟩ h2
  have n1 : ¬ b1 = w.heap.size := by omega
  have n2 : ¬ b2 = w.heap.size := by omega
  have hbw := bal (Below.refl w.heap.size w) (.cells #[.int .i64 reg, .int .i64 val] 56)
  have HV := Lib.hid (value_c B g val ahead _ (hB.below hbw))
  have h3 := cellk hbw h1
  have h4 := cellk hbw h2
  have HBW := Lib.hid hbw
  clear hB hbw hl1 hl2
  generalize valB B val ahead = r at *
  go_enter Tryd.func67, Tryd.ntmps67
  go_wp2_with fail
  refine HV.out.mono ?_
  rintro e w1 ⟨rfl, hb1⟩
  have HB1 := Lib.hid (bthen HBW.out hb1)
  clear hb1
  go_wp2
  go_ret
  exact ⟨rfl, HB1.out⟩
def badB (B : BlkV) (ahead : Int) (v : S56) : Bool := !valB B v.f1 ahead
set_option maxHeartbeats 2000000 in
theorem vindex_c (B : BlkV) (g : Nat) (ahead : Int) (b1 b2 : Nat) (A : Option Addr) (c : Nat) (xs : List S56) (hx : xs.length ≤ 1000000) (w : World) (hB : BlockAt w g B) (hC : k56.C w A xs.length xs) (h1 : w.cell? ⟨b1, 0, none⟩ = some (.pointer (some ⟨g, 0, none⟩))) (h2 : w.cell? ⟨b2, 0, none⟩ = some (.int .i64 ahead)) :
    Calls Tryd.prog 73 #[.slice A xs.length c, .func (.func 67) #[] #[.pointer (some ⟨b1, 0, none⟩), .pointer (some ⟨b2, 0, none⟩)]] w fun e w' => (∃ v, e = .returned (.int .i64 v) ∧ ((0 ≤ v ∧ xs.any (badB B ahead) = true) ∨ (v = -1 ∧ xs.any (badB B ahead) = false))) ∧ Below w.heap.size w w' := by
  have HF := Lib.hid (fun (q : S56) v (hb : Below w.heap.size w v) => exitfn_c B g q.f0 q.f1 ahead b1 b2 v (hB.below hb) (cellk hb h1) (cellk hb h2))
  have HC := Lib.hid hC
  clear hB hC h1 h2
  go_enter Tryd.func73, Tryd.ntmps73
  go_wp2
  go_loopw [8] (fun i wr => ∃ k : Nat, k ≤ xs.length ∧ i = .int .i64 k ∧ Hid ((xs.take k).any (badB B ahead) = false) ∧ Hid (Below w.heap.size w wr)) (fun i _ => xs.length - (intOf i).toNat)
  case atStart => exact ⟨0, Nat.zero_le _, rfl, Lib.hid (by simp), Lib.hid (Below.refl _ _)⟩
  case round =>
    obtain ⟨k, hk, rfl, HN, HB⟩ := hrel
    by_cases hlt : k < xs.length
    · obtain ⟨ad, rfl, d0, d1⟩ := at_T56 (Kd.C_below HC.out HB.out) (k : Int) (by omega) (by omega)
      have hq : rd_T56 xs (k : Int) = xs[k] := by simp [rd_T56, hlt]
      have hT : (xs.take (k + 1)).any (badB B ahead) = ((xs.take k).any (badB B ahead) || badB B ahead (rd_T56 xs (k : Int))) := by
        rw [hq, List.take_succ_eq_append_getElem hlt, List.any_append]
        simp
      have hA : badB B ahead (rd_T56 xs (k : Int)) = true → xs.any (badB B ahead) = true := fun h => List.any_eq_true.2 ⟨_, by rw [hq]; exact List.getElem_mem hlt, h⟩
      have HT := Lib.hid hT
      have HA := Lib.hid hA
      have HE := Lib.hid (HF.out (rd_T56 xs (k : Int)) _ HB.out)
      simp only [Int.toNat_natCast] at d0 d1
      clear hq hT hA
      generalize rd_T56 xs (k : Int) = q at *
      rcases Bool.eq_false_or_eq_true (badB B ahead q) with hb | hb
      · have HA' := Lib.hid (HA.out hb)
        unfold badB at hb
        rw [hb] at HE
        clear HA HT hb
        go_wp2_with fail
        refine HE.out.mono ?_
        rintro e w1 ⟨rfl, hb1⟩
        have HB1 := Lib.hid (bthen HB.out hb1)
        clear hb1
        go_wp2
        go_ret
        exact ⟨⟨_, rfl, .inl ⟨by omega, HA'.out⟩⟩, HB1.out⟩
      · have HT' := Lib.hid (show (xs.take (k + 1)).any (badB B ahead) = false by rw [HT.out, HN.out, hb]; rfl)
        unfold badB at hb
        rw [hb] at HE
        clear HA HT hb
        go_wp2_with fail
        refine HE.out.mono ?_
        rintro e w1 ⟨rfl, hb1⟩
        have HB1 := Lib.hid (bthen HB.out hb1)
        clear hb1
        go_wp2
        go_roundw
        case rel => exact ⟨k + 1, by omega, by go_num, HT', HB1⟩
        case measure => simp [intOf]; omega
    · obtain rfl : k = xs.length := by omega
      have hN := HN.out
      rw [List.take_length] at hN
      have HN' := Lib.hid hN
      clear hN
      go_wp2
      go_ret
      exact ⟨⟨_, rfl, .inr ⟨rfl, HN'.out⟩⟩, HB.out⟩
theorem vcontains_c (B : BlkV) (g : Nat) (ahead : Int) (b1 b2 : Nat) (A : Option Addr) (c : Nat) (xs : List S56) (hx : xs.length ≤ 1000000) (w : World) (hB : BlockAt w g B) (hC : k56.C w A xs.length xs) (h1 : w.cell? ⟨b1, 0, none⟩ = some (.pointer (some ⟨g, 0, none⟩))) (h2 : w.cell? ⟨b2, 0, none⟩ = some (.int .i64 ahead)) :
    Calls Tryd.prog 66 #[.slice A xs.length c, .func (.func 67) #[] #[.pointer (some ⟨b1, 0, none⟩), .pointer (some ⟨b2, 0, none⟩)]] w fun e w' => e = .returned (.bool (xs.any (badB B ahead))) ∧ Below w.heap.size w w' := by
  have HI := Lib.hid (vindex_c B g ahead b1 b2 A c xs hx w hB hC h1 h2)
  clear hB hC h1 h2
  go_enter Tryd.func66, Tryd.ntmps66
  go_wp2_with fail
  refine HI.out.mono ?_
  rintro e w1 ⟨⟨v, rfl, hv⟩, hb1⟩
  have HB1 := Lib.hid hb1
  clear hb1
  rcases hv with ⟨h0, h⟩ | ⟨rfl, h⟩
  · have HH := Lib.hid h
    clear h
    go_wp2
    go_ret
    exact ⟨ret_b (by rw [HH.out]), HB1.out⟩
  · have HH := Lib.hid h
    clear h
    go_wp2
    go_ret
    exact ⟨ret_b (by rw [HH.out]), HB1.out⟩
end Go.Proofs.YtlnbghhhifnbdaaDoor

/- Contract of the judge's exit. Conditions: the block reads as the given one, its maps have at most a million entries. -/
namespace Go.Proofs.YtlnbghhhifnbdaaDoor
open Go.RowKit Go.Proofs.YtlnbghhhifnbdaaDoorW.PrintWords Go.Proofs.YtlnbghhhifnbdaaDoor.PIrTexts
set_option linter.unusedVariables false
set_option linter.unusedSimpArgs false

/-- No map of a block is beyond a million. -/
def Maps (B : BlkV) : Prop := ∀ n : Int, (rd_T54 B.exits n).f4.length ≤ 1000000
def exitB (B : BlkV) (n ahead : Int) : Bool := decide (0 ≤ n) && (decide (n < (B.exits.length : Int)) && ((decide ((rd_T54 B.exits n).f2 = -1) || valB B (rd_T54 B.exits n).f2 ahead) && !((rd_T54 B.exits n).f4.any (badB B ahead))))
set_option maxHeartbeats 2000000 in
theorem exit_c (B : BlkV) (g : Nat) (n ahead : Int) (w : World) (hB : BlockAt w g B) (hM : Maps B) :
    Calls Tryd.prog 51 #[.agg #[.pointer (some ⟨g, 0, none⟩)], .int .i64 n, .int .i64 ahead] w fun e w' => e = .returned (.bool (exitB B n ahead)) ∧ Below w.heap.size w w' := by
  obtain ⟨A2, c2, h2, k2⟩ := hB.exits
  have hg : g < w.heap.size := World.block_lt_of_cell? w ⟨g, 2, none⟩ h2
  have hg2 : ¬ g = w.heap.size := by omega
  have hg3 : ¬ g = w.heap.size + 1 := by omega
  by_cases q0 : 0 ≤ n
  case neg =>
    have e : exitB B n ahead = false := by simp [exitB]; omega
    rw [e]
    clear k2 hB e hM
    go_enter Tryd.func51, Tryd.ntmps51
    go_wp2
    go_ret
    exact ⟨rfl, bal (bal (Below.refl _ _) _) _⟩
  by_cases q1 : n < (B.exits.length : Int)
  case neg =>
    have e : exitB B n ahead = false := by simp [exitB]; omega
    rw [e]
    clear k2 hB e hM
    go_enter Tryd.func51, Tryd.ntmps51
    go_wp2
    go_ret
    exact ⟨rfl, bal (bal (Below.refl _ _) _) _⟩
  obtain ⟨ad, A4, c4, rfl, d0, d1, d2, d3, d4, l4, k4⟩ := at_T54 k2 n q0 q1
  have e : exitB B n ahead = ((decide ((rd_T54 B.exits n).f2 = -1) || valB B (rd_T54 B.exits n).f2 ahead) && !((rd_T54 B.exits n).f4.any (badB B ahead))) := by simp [exitB, q0, q1]
  rw [e]
  have hm := hM n
  have hbw := bal (bal (Below.refl w.heap.size w) (.cells #[.pointer (some ⟨g, 0, none⟩)] 61)) (.cells #[.int .i64 ahead] 3)
  have p0 := cellk hbw d0
  have p1 := cellk hbw d1
  have p2 := cellk hbw d2
  have p3 := cellk hbw d3
  have p4 := cellk hbw d4
  generalize rd_T54 B.exits n = x at *
  have HV := Lib.hid (fun v (hb : Below w.heap.size w v) => value_c B g x.f2 ahead v (hB.below hb))
  have HC := Lib.hid (fun v b1 b2 (hb : Below w.heap.size w v) => vcontains_c B g ahead b1 b2 A4 c4 x.f4 hm v (hB.below hb) (Kd.C_below k4 hb))
  clear k2 hB e hM k4 d0 d1 d2 d3 d4
  by_cases q2 : x.f2 = -1
  · have e : (decide (x.f2 = -1) || valB B x.f2 ahead) = true := by simp [q2]
    rw [e, Bool.true_and]
    clear HV e
    generalize x.f4.any (badB B ahead) = r at *
    go_enter Tryd.func51, Tryd.ntmps51
    go_wp2_with fail
    refine (HC.out _ _ _ (bal (bal (bal (Below.refl _ _) _) _) _) (by simp [go_sem]) (by simp [go_sem])).mono ?_
    rintro e w1 ⟨rfl, hb1⟩
    have HB1 := Lib.hid (bthen (bal (bal (bal (Below.refl w.heap.size w) _) _) _) hb1)
    clear hb1
    go_wp2
    go_ret
    exact ⟨rfl, HB1.out⟩
  · have e : (decide (x.f2 = -1) || valB B x.f2 ahead) = valB B x.f2 ahead := by simp [q2]
    rw [e]
    clear e
    rcases Bool.eq_false_or_eq_true (valB B x.f2 ahead) with hv | hv
    · rw [hv] at HV
      rw [hv, Bool.true_and]
      clear hv
      generalize x.f4.any (badB B ahead) = r at *
      go_enter Tryd.func51, Tryd.ntmps51
      go_wp2_with fail
      refine (HV.out _ (bal (bal (bal (Below.refl _ _) _) _) _)).mono ?_
      rintro e w1 ⟨rfl, hb1⟩
      have y0 := cellk hb1 (a := ⟨w.heap.size, 0, none⟩) (v := .pointer (some ⟨g, 0, none⟩)) (by simp [go_sem])
      have y1 := cellk hb1 (a := ⟨w.heap.size + 1, 0, none⟩) (v := .int .i64 ahead) (by simp [go_sem])
      have y2 := cellk hb1 (a := ⟨w.heap.size + 1 + 1, 4, none⟩) (v := .slice A4 x.f4.length c4) (by simp [go_sem])
      have HB1 := Lib.hid (bthen (bal (bal (bal (Below.refl w.heap.size w) _) _) _) hb1)
      clear hb1
      go_wp2_with fail
      refine (HC.out _ _ _ HB1.out y0 y1).mono ?_
      rintro e w2 ⟨rfl, hb2⟩
      have HB2 := Lib.hid (bthen HB1.out hb2)
      clear hb2
      go_wp2
      go_ret
      exact ⟨rfl, HB2.out⟩
    · rw [hv] at HV
      rw [hv, Bool.false_and]
      clear hv HC
      go_enter Tryd.func51, Tryd.ntmps51
      go_wp2_with fail
      refine (HV.out _ (bal (bal (bal (Below.refl _ _) _) _) _)).mono ?_
      rintro e w1 ⟨rfl, hb1⟩
      have HB1 := Lib.hid (bthen (bal (bal (bal (Below.refl w.heap.size w) _) _) _) hb1)
      clear hb1
      go_wp2
      go_ret
      exact ⟨rfl, HB1.out⟩
end Go.Proofs.YtlnbghhhifnbdaaDoor

/- What ir.kind, ir.named, ir.Uses and ir.Reckons answer, in closed form. -/
namespace Go.Proofs.YtlnbghhhifnbdaaDoor
open Go.RowKit Go.Proofs.YtlnbghhhifnbdaaDoorW.PrintWords Go.Proofs.YtlnbghhhifnbdaaDoorW.PrintLast Go.Proofs.YtlnbghhhifnbdaaDoorW.PrintMore
open Go.Proofs.YtlnbghhhifnbdaaDoor.PIrTexts
set_option linter.unusedVariables false
set_option linter.unusedSimpArgs false

def reckB (n : Int) : Bool := (decide (19 ≤ n) && decide (n ≤ 37)) || (decide (50 ≤ n) && decide (n ≤ 57))
def loadV (n : Int) : Int := if n = 11 ∨ n = 14 then 1 else if n = 12 ∨ n = 15 then 2 else if n = 13 then 4 else 0
def storeV (n : Int) : Int := if n = 16 then 1 else if n = 17 then 2 else if n = 18 then 4 else 0
theorem reckon_f (n : Int) : ir_Reckons.f n = some (reckB n) := by
  unfold ir_Reckons.f alu_Has.f muldiv_Has.f reckB
  by_cases h : 19 ≤ n <;> by_cases h1 : n ≤ 37 <;> by_cases h2 : 50 ≤ n <;> by_cases h3 : n ≤ 57 <;> simp [h, h1, h2, h3] <;> omega
theorem load_f (n : Int) : inst_Loads.f 2 n = some (loadV n) := by
  unfold inst_Loads.f loadV
  by_cases h : n = 11
  · simp [h, inst_Loads.j0]
  by_cases h1 : n = 14
  · simp [h, h1, inst_Loads.j0]
  by_cases h2 : n = 12
  · simp [h, h1, h2, inst_Loads.j0, inst_Loads.j1]
  by_cases h3 : n = 15
  · simp [h, h1, h2, h3, inst_Loads.j0, inst_Loads.j1]
  by_cases h4 : n = 13
  · simp [h, h1, h2, h3, h4, inst_Loads.j0, inst_Loads.j1]
  · simp [h, h1, h2, h3, h4, inst_Loads.j0, inst_Loads.j1]
theorem store_f (n : Int) : inst_Stores.f n = some (storeV n) := by
  unfold inst_Stores.f storeV
  by_cases h : n = 16
  · simp [h]
  by_cases h1 : n = 17
  · simp [h, h1]
  by_cases h2 : n = 18
  · simp [h, h1, h2]
  · simp [h, h1, h2]
def kindB (o : S41) : Bool :=
  if o.f0 = 1 then decide (1 ≤ wrap64 o.f3) && decide (wrap64 o.f3 ≤ 31)
  else if o.f0 = 2 then true
  else if o.f0 = 3 then reckB (wrap64 o.f3)
  else if o.f0 = 4 then decide (0 < loadV (wrap64 o.f3))
  else if o.f0 = 5 then decide (0 < storeV (wrap64 o.f3))
  else if o.f0 = 6 then decide (5 ≤ wrap64 o.f3) && decide (wrap64 o.f3 ≤ 10)
  else false
theorem kind_f (o : S41) : ir_kind.f 2 o.f0 o.f1 o.f2 o.f3 o.f4 o.f5 = some (kindB o) := by
  unfold ir_kind.f kindB
  rw [reckon_f, load_f, store_f]
  generalize wrap64 o.f3 = n
  split
  · by_cases h : 1 ≤ n <;> simp [h]
  split
  · rfl
  split
  · rfl
  split
  · rfl
  split
  · rfl
  split
  · by_cases h : 5 ≤ n <;> simp [h]
  · rfl
def namedB (o : S41) : Bool :=
  if o.f0 = 5 then true
  else if o.f0 = 6 then 0 == o.f5
  else if o.f0 = 3 then 0 == o.f4 && (0 == o.f5)
  else if o.f0 = 4 then 0 == o.f2 && (0 == o.f5)
  else 0 == o.f1 && (0 == o.f2 && (0 == o.f4 && (0 == o.f5)))
theorem named_f (o : S41) : ir_named.f o.f0 o.f1 o.f2 o.f3 o.f4 o.f5 = some (namedB o) := by
  unfold ir_named.f namedB
  split
  · rfl
  split
  · rfl
  split
  · rfl
  split
  · rfl
  · rfl
def usesL (o : S41) : List Int := if o.f0 = 3 ∨ o.f0 = 5 ∨ o.f0 = 6 then [o.f1, o.f2] else if o.f0 = 4 then [o.f1] else []
theorem uses_f (o : S41) : ir_Uses.f 1 o.f0 o.f1 o.f2 o.f3 o.f4 o.f5 = some (usesL o) := by
  unfold ir_Uses.f usesL ir_Uses.j0
  by_cases h : o.f0 = 3
  · simp [h]
  by_cases h1 : o.f0 = 5
  · simp [h1]
  by_cases h2 : o.f0 = 6
  · simp [h2]
  by_cases h3 : o.f0 = 4
  · simp [h3]
  · simp [h, h1, h2, h3]
theorem kind_c (o : S41) (w : World) : Calls Tryd.prog 62 #[.agg #[.int .i64 o.f0, .int .i64 o.f1, .int .i64 o.f2, .int .u32 o.f3, .int .i64 o.f4, .int .i64 o.f5]] w fun e w' => e = .returned (.bool (kindB o)) ∧ Below w.heap.size w w' :=
  ir_kind.calls 2 _ _ _ _ _ _ _ w (kind_f o)
theorem named_c (o : S41) (w : World) : Calls Tryd.prog 63 #[.agg #[.int .i64 o.f0, .int .i64 o.f1, .int .i64 o.f2, .int .u32 o.f3, .int .i64 o.f4, .int .i64 o.f5]] w fun e w' => e = .returned (.bool (namedB o)) ∧ Below w.heap.size w w' :=
  ir_named.calls _ _ _ _ _ _ _ w (named_f o)
theorem uses_c (o : S41) (w : World) : Calls Tryd.prog 14 #[.agg #[.int .i64 o.f0, .int .i64 o.f1, .int .i64 o.f2, .int .u32 o.f3, .int .i64 o.f4, .int .i64 o.f5]] w fun e w' => (∃ A c, e = .returned (.slice A (usesL o).length c) ∧ (Kd.int .i64).C w' A (usesL o).length (usesL o)) ∧ Below w.heap.size w w' := by
  refine (ir_Uses.calls 1 _ _ _ _ _ _ _ w (uses_f o)).mono ?_
  rintro e w' ⟨v, rfl, hR, hb⟩
  obtain ⟨A, c, rfl, -, hC⟩ := Kd.R_reads hR
  exact ⟨⟨A, c, rfl, hC⟩, hb⟩
end Go.Proofs.YtlnbghhhifnbdaaDoor

/- Contract of the judge's op. Conditions: the block reads as the given one, its maps have at most a million entries, the operation is there. -/
namespace Go.Proofs.YtlnbghhhifnbdaaDoor
open Go.RowKit Go.Proofs.YtlnbghhhifnbdaaDoorW.PrintWords Go.Proofs.YtlnbghhhifnbdaaDoor.PIrTexts
set_option linter.unusedVariables false
set_option linter.unusedSimpArgs false

def opB (B : BlkV) (k : Int) : Bool :=
  kindB (rd_T41 B.ops k) && (namedB (rd_T41 B.ops k) && ((usesL (rd_T41 B.ops k)).all (fun n => valB B n k) && (if (rd_T41 B.ops k).f0 = 5 then exitB B (rd_T41 B.ops k).f4 k && exitB B (rd_T41 B.ops k).f5 k else if (rd_T41 B.ops k).f0 = 4 ∨ (rd_T41 B.ops k).f0 = 6 then exitB B (rd_T41 B.ops k).f4 k else true)))
set_option maxHeartbeats 4000000 in
theorem op_c (B : BlkV) (g : Nat) (k : Int) (hk0 : 0 ≤ k) (hk1 : k < (B.ops.length : Int)) (w : World) (hB : BlockAt w g B) (hM : Maps B) :
    Calls Tryd.prog 47 #[.agg #[.pointer (some ⟨g, 0, none⟩)], .int .i64 k] w fun e w' => e = .returned (.bool (opB B k)) ∧ Below w.heap.size w w' := by
  obtain ⟨A1, c1, h1, k1⟩ := hB.ops
  have hg : g < w.heap.size := World.block_lt_of_cell? w ⟨g, 1, none⟩ h1
  have hg2 : ¬ g = w.heap.size := by omega
  obtain ⟨ad, rfl, d0, d1, d2, d3, d4, d5⟩ := at_T41 k1 k hk0 hk1
  have hbw := bal (Below.refl w.heap.size w) (.cells #[.pointer (some ⟨g, 0, none⟩)] 61)
  have p0 := cellk hbw d0
  have p1 := cellk hbw d1
  have p2 := cellk hbw d2
  have p3 := cellk hbw d3
  have p4 := cellk hbw d4
  have p5 := cellk hbw d5
  have ho : opB B k = (kindB (rd_T41 B.ops k) && (namedB (rd_T41 B.ops k) && ((usesL (rd_T41 B.ops k)).all (fun n => valB B n k) && (if (rd_T41 B.ops k).f0 = 5 then exitB B (rd_T41 B.ops k).f4 k && exitB B (rd_T41 B.ops k).f5 k else if (rd_T41 B.ops k).f0 = 4 ∨ (rd_T41 B.ops k).f0 = 6 then exitB B (rd_T41 B.ops k).f4 k else true)))) := rfl
  rw [ho]
  generalize rd_T41 B.ops k = o at *
  have HK := Lib.hid (fun v => kind_c o v)
  have HN := Lib.hid (fun v => named_c o v)
  have HU := Lib.hid (fun v => uses_c o v)
  have HV := Lib.hid (fun n v (hb : Below w.heap.size w v) => value_c B g n k v (hB.below hb))
  have HX := Lib.hid (fun n v (hb : Below w.heap.size w v) => exit_c B g n k v (hB.below hb) hM)
  clear ho hB hM d0 d1 d2 d3 d4 d5 k1
  rcases Bool.eq_false_or_eq_true (kindB o) with hq | hq
  case inr =>
    rw [hq, Bool.false_and]
    rw [hq] at HK
    clear HN HU HV HX hq
    go_enter Tryd.func47, Tryd.ntmps47
    go_wp2_with fail
    refine (HK.out _).mono ?_
    rintro e w1 ⟨rfl, hb1⟩
    have HB1 := Lib.hid (bthen (bal (bal (Below.refl w.heap.size w) _) _) hb1)
    clear hb1
    go_wp2
    go_ret
    exact ⟨rfl, HB1.out⟩
  rw [hq, Bool.true_and]
  rw [hq] at HK
  clear hq
  rcases Bool.eq_false_or_eq_true (namedB o) with hq | hq
  case inr =>
    rw [hq, Bool.false_and]
    rw [hq] at HN
    clear HU HV HX hq
    go_enter Tryd.func47, Tryd.ntmps47
    go_wp2_with fail
    refine (HK.out _).mono ?_
    rintro e w1 ⟨rfl, hb1⟩
    have y0 := cellk hb1 (a := ⟨w.heap.size + 1, 0, none⟩) (v := .int .i64 o.f0) (by simp [go_sem])
    have y1 := cellk hb1 (a := ⟨w.heap.size + 1, 1, none⟩) (v := .int .i64 o.f1) (by simp [go_sem])
    have y2 := cellk hb1 (a := ⟨w.heap.size + 1, 2, none⟩) (v := .int .i64 o.f2) (by simp [go_sem])
    have y3 := cellk hb1 (a := ⟨w.heap.size + 1, 3, none⟩) (v := .int .u32 o.f3) (by simp [go_sem])
    have y4 := cellk hb1 (a := ⟨w.heap.size + 1, 4, none⟩) (v := .int .i64 o.f4) (by simp [go_sem])
    have y5 := cellk hb1 (a := ⟨w.heap.size + 1, 5, none⟩) (v := .int .i64 o.f5) (by simp [go_sem])
    have HB1 := Lib.hid (bthen (bal (bal (Below.refl w.heap.size w) _) _) hb1)
    clear hb1
    go_wp2_with fail
    refine (HN.out _).mono ?_
    rintro e w2 ⟨rfl, hb2⟩
    have HB2 := Lib.hid (bthen HB1.out hb2)
    clear hb2
    go_wp2
    go_ret
    exact ⟨rfl, HB2.out⟩
  rw [hq, Bool.true_and]
  rw [hq] at HN
  clear hq
  generalize hus : usesL o = us at *
  have hul : us.length ≤ 2 := by
    rw [← hus]
    unfold usesL
    split
    · simp
    · split <;> simp
  clear hus
  obtain ⟨V, hV⟩ : ∃ V, V = (us.all (fun n => valB B n k) && (if o.f0 = 5 then exitB B o.f4 k && exitB B o.f5 k else if o.f0 = 4 ∨ o.f0 = 6 then exitB B o.f4 k else true)) := ⟨_, rfl⟩
  rw [← hV]
  have HVV := Lib.hid hV
  clear hV
  go_enter Tryd.func47, Tryd.ntmps47
  go_wp2_with fail
  refine (HK.out _).mono ?_
  rintro e w1 ⟨rfl, hb1⟩
  have x0 := cellk hb1 (a := ⟨w.heap.size, 0, none⟩) (v := .pointer (some ⟨g, 0, none⟩)) (by simp [go_sem])
  have y0 := cellk hb1 (a := ⟨w.heap.size + 1, 0, none⟩) (v := .int .i64 o.f0) (by simp [go_sem])
  have y1 := cellk hb1 (a := ⟨w.heap.size + 1, 1, none⟩) (v := .int .i64 o.f1) (by simp [go_sem])
  have y2 := cellk hb1 (a := ⟨w.heap.size + 1, 2, none⟩) (v := .int .i64 o.f2) (by simp [go_sem])
  have y3 := cellk hb1 (a := ⟨w.heap.size + 1, 3, none⟩) (v := .int .u32 o.f3) (by simp [go_sem])
  have y4 := cellk hb1 (a := ⟨w.heap.size + 1, 4, none⟩) (v := .int .i64 o.f4) (by simp [go_sem])
  have y5 := cellk hb1 (a := ⟨w.heap.size + 1, 5, none⟩) (v := .int .i64 o.f5) (by simp [go_sem])
  have HB1 := Lib.hid (bthen (bal (bal (Below.refl w.heap.size w) _) _) hb1)
  clear hb1
  go_wp2_with fail
  refine (HN.out _).mono ?_
  rintro e w2 ⟨rfl, hb2⟩
  replace x0 := cellk hb2 x0
  replace y0 := cellk hb2 y0
  replace y1 := cellk hb2 y1
  replace y2 := cellk hb2 y2
  replace y3 := cellk hb2 y3
  replace y4 := cellk hb2 y4
  replace y5 := cellk hb2 y5
  have HB2 := Lib.hid (bthen HB1.out hb2)
  clear hb2 HB1
  go_wp2_with fail
  refine (HU.out _).mono ?_
  rintro e w3 ⟨⟨A3, c3, rfl, hC3⟩, hb3⟩
  replace x0 := cellk hb3 x0
  replace y0 := cellk hb3 y0
  replace y4 := cellk hb3 y4
  replace y5 := cellk hb3 y5
  have HB3 := Lib.hid (bthen HB2.out hb3)
  have HC3 := Lib.hid hC3
  clear hb3 HB2 hC3 y1 y2 y3 HK HN HU
  go_wp2
  go_loopw [27] (fun i wr => ∃ j : Nat, j ≤ us.length ∧ i = .int .i64 j ∧ Hid ((us.take j).all (fun n => valB B n k) = true) ∧ Hid (Below w3.heap.size w3 wr)) (fun i _ => us.length - (intOf i).toNat)
  case atStart => exact ⟨0, Nat.zero_le _, rfl, Lib.hid (by simp), Lib.hid (Below.refl _ _)⟩
  case round =>
    obtain ⟨j, hj, rfl, HT, HB⟩ := hrel
    have z0 := cellk HB.out x0
    have z1 := cellk HB.out y0
    have z4 := cellk HB.out y4
    have z5 := cellk HB.out y5
    have HBW := Lib.hid (bthen HB3.out HB.out)
    by_cases hlt : j < us.length
    · obtain ⟨ad, rfl, e0⟩ := Kd.at_int (Kd.C_below HC3.out HB.out) (j : Int) (by omega) (by omega)
      have hq : rd us (j : Int) = us[j] := by simp [rd, hlt]
      have hT : (us.take (j + 1)).all (fun n => valB B n k) = ((us.take j).all (fun n => valB B n k) && valB B (rd us (j : Int)) k) := by
        rw [hq, List.take_succ_eq_append_getElem hlt, List.all_append]
        simp
      have hA : valB B (rd us (j : Int)) k = false → us.all (fun n => valB B n k) = false := fun h => List.all_eq_false.2 ⟨us[j], List.getElem_mem hlt, by rw [← hq]; simpa using h⟩
      have HTT := Lib.hid hT
      have HA := Lib.hid hA
      have HE := Lib.hid (HV.out (rd us (j : Int)) _ HBW.out)
      simp only [Int.toNat_natCast] at e0
      clear hq hT hA
      generalize rd us (j : Int) = q at *
      rcases Bool.eq_false_or_eq_true (valB B q k) with hv | hv
      · have HT' := Lib.hid (show (us.take (j + 1)).all (fun n => valB B n k) = true by rw [HTT.out, HT.out, hv]; rfl)
        rw [hv] at HE
        clear HA HTT hv
        go_wp2_with fail
        refine HE.out.mono ?_
        rintro e w4 ⟨rfl, hb4⟩
        have HB4 := Lib.hid (bthen HB.out hb4)
        clear hb4
        go_wp2
        go_roundw
        case rel => exact ⟨j + 1, by omega, by go_num, HT', HB4⟩
        case measure => simp [intOf]; omega
      · have HA' := Lib.hid (HA.out hv)
        rw [hv] at HE
        clear HA HTT hv
        go_wp2_with fail
        refine HE.out.mono ?_
        rintro e w4 ⟨rfl, hb4⟩
        have HB4 := Lib.hid (bthen HBW.out hb4)
        clear hb4
        go_wp2
        go_ret
        exact ⟨ret_b (by rw [HVV.out, HA'.out, Bool.false_and]), HB4.out⟩
    · obtain rfl : j = us.length := by omega
      have hN := HT.out
      rw [List.take_length] at hN
      have HN' := Lib.hid hN
      clear hN HT HV
      by_cases q5 : o.f0 = 5
      · have HX4 := Lib.hid (HX.out o.f4 _ HBW.out)
        rcases Bool.eq_false_or_eq_true (exitB B o.f4 k) with hx | hx
        · rw [hx] at HX4
          have HR := Lib.hid hx
          clear hx
          go_wp2_with fail
          refine HX4.out.mono ?_
          rintro e w4 ⟨rfl, hb4⟩
          have v0 := cellk hb4 z0
          have v5 := cellk hb4 z5
          have HB4 := Lib.hid (bthen HBW.out hb4)
          clear hb4
          go_wp2_with fail
          refine (HX.out o.f5 _ HB4.out).mono ?_
          rintro e w5 ⟨rfl, hb5⟩
          have HB5 := Lib.hid (bthen HB4.out hb5)
          clear hb5
          go_wp2
          go_ret
          exact ⟨ret_b (by rw [HVV.out, HN'.out, if_pos q5, HR.out]; rfl), HB5.out⟩
        · rw [hx] at HX4
          have HR := Lib.hid hx
          clear hx
          go_wp2_with fail
          refine HX4.out.mono ?_
          rintro e w4 ⟨rfl, hb4⟩
          have HB4 := Lib.hid (bthen HBW.out hb4)
          clear hb4
          go_wp2
          go_ret
          exact ⟨ret_b (by rw [HVV.out, HN'.out, if_pos q5, HR.out]; rfl), HB4.out⟩
      by_cases q4 : o.f0 = 4
      · go_wp2_with fail
        refine (HX.out o.f4 _ HBW.out).mono ?_
        rintro e w5 ⟨rfl, hb5⟩
        have HB5 := Lib.hid (bthen HBW.out hb5)
        clear hb5
        go_wp2
        go_ret
        exact ⟨ret_b (by rw [HVV.out, HN'.out, if_neg q5, if_pos (.inl q4)]; rfl), HB5.out⟩
      by_cases q6 : o.f0 = 6
      · go_wp2_with fail
        refine (HX.out o.f4 _ HBW.out).mono ?_
        rintro e w5 ⟨rfl, hb5⟩
        have HB5 := Lib.hid (bthen HBW.out hb5)
        clear hb5
        go_wp2
        go_ret
        exact ⟨ret_b (by rw [HVV.out, HN'.out, if_neg q5, if_pos (.inr q6)]; rfl), HB5.out⟩
      · clear HX
        go_wp2
        go_ret
        exact ⟨ret_b (by rw [HVV.out, HN'.out, if_neg q5, if_neg (by omega)]; rfl), HBW.out⟩
end Go.Proofs.YtlnbghhhifnbdaaDoor

/- Contract of the judge's leaves. Conditions: the block reads as the given one, its maps have at most a million entries, the exit is there. -/
namespace Go.Proofs.YtlnbghhhifnbdaaDoor
open Go.RowKit Go.Proofs.YtlnbghhhifnbdaaDoorW.PrintWords Go.Proofs.YtlnbghhhifnbdaaDoor.PIrTexts
set_option linter.unusedVariables false
set_option linter.unusedSimpArgs false

def risingB : Int → List S56 → Bool
  | _, [] => true
  | last, v :: l => !decide (v.f0 ≤ last) && (!decide (31 < v.f0) && risingB v.f0 l)
theorem rising_drop (last : Int) (xs : List S56) (j : Nat) (h : j < xs.length) : risingB last (xs.drop j) = (!decide ((rd_T56 xs (j : Int)).f0 ≤ last) && (!decide (31 < (rd_T56 xs (j : Int)).f0) && risingB (rd_T56 xs (j : Int)).f0 (xs.drop (j + 1)))) := by
  have hq : rd_T56 xs (j : Int) = xs[j] := by simp [rd_T56, h]
  rw [List.drop_eq_getElem_cons h, hq]
  rfl
def leavesB (B : BlkV) (n : Int) : Bool :=
  exitB B n (B.ops.length : Int) && (!decide ((rd_T54 B.exits n).f0 < 0) && (!decide ((B.pcs.length : Int) < (rd_T54 B.exits n).f0) && (decide ((rd_T54 B.exits n).f1.tmod 4 = 0) && (!decide ((rd_T54 B.exits n).f3 < 1) && (!decide (4 < (rd_T54 B.exits n).f3) && risingB 0 (rd_T54 B.exits n).f4)))))
set_option maxHeartbeats 4000000 in
theorem leaves_c (B : BlkV) (g : Nat) (n : Int) (hn0 : 0 ≤ n) (hn1 : n < (B.exits.length : Int)) (w : World) (hB : BlockAt w g B) (hM : Maps B) (hP : B.pcs.length ≤ 1000000) (hO : B.ops.length ≤ 1000000) :
    Calls Tryd.prog 48 #[.agg #[.pointer (some ⟨g, 0, none⟩)], .int .i64 n] w fun e w' => e = .returned (.bool (leavesB B n)) ∧ Below w.heap.size w w' := by
  obtain ⟨A0, c0, u0, k0⟩ := hB.pcs
  obtain ⟨A1, c1, u1, k1⟩ := hB.ops
  obtain ⟨A2, c2, u2, k2⟩ := hB.exits
  have hg : g < w.heap.size := World.block_lt_of_cell? w ⟨g, 1, none⟩ u1
  have hg2 : ¬ g = w.heap.size := by omega
  obtain ⟨ad, A4, c4, rfl, d0, d1, d2, d3, d4, l4, k4⟩ := at_T54 k2 n hn0 hn1
  have hbw := bal (Below.refl w.heap.size w) (.cells #[.pointer (some ⟨g, 0, none⟩)] 61)
  have p0 := cellk hbw d0
  have p1 := cellk hbw d1
  have p2 := cellk hbw d2
  have p3 := cellk hbw d3
  have p4 := cellk hbw d4
  have hm := hM n
  have HX := Lib.hid (fun v (hb : Below w.heap.size w v) => exit_c B g n (B.ops.length : Int) v (hB.below hb) hM)
  obtain ⟨V, hV⟩ : ∃ V, V = leavesB B n := ⟨_, rfl⟩
  rw [← hV]
  unfold leavesB at hV
  generalize rd_T54 B.exits n = x at *
  have HC := Lib.hid k4
  generalize exitB B n (B.ops.length : Int) = E at *
  have hcase : (E = false ∧ V = false) ∨ (E = true ∧ ((x.f0 < 0 ∧ V = false) ∨ (decide (x.f0 < 0) = false ∧ 0 ≤ x.f0 ∧ (((B.pcs.length : Int) < x.f0 ∧ V = false) ∨ (decide ((B.pcs.length : Int) < x.f0) = false ∧ (((x.f1.tmod 4 != 0) = true ∧ V = false) ∨ (x.f1.tmod 4 = 0 ∧ ((x.f3 < 1 ∧ V = false) ∨ (decide (x.f3 < 1) = false ∧ ((4 < x.f3 ∧ V = false) ∨ (decide (4 < x.f3) = false ∧ V = risingB 0 x.f4))))))))))) := by
    rw [hV]
    rcases Bool.eq_false_or_eq_true E with h | h
    case inr => exact .inl ⟨h, by simp [h]⟩
    refine .inr ⟨h, ?_⟩
    by_cases h0 : x.f0 < 0
    · exact .inl ⟨h0, by simp [h, h0]⟩
    refine .inr ⟨by simpa using h0, by omega, ?_⟩
    by_cases h1 : (B.pcs.length : Int) < x.f0
    · exact .inl ⟨h1, by simp [h, h0, h1]⟩
    refine .inr ⟨by simpa using h1, ?_⟩
    by_cases h2 : x.f1.tmod 4 = 0
    case neg => exact .inl ⟨by simpa using h2, by simp [h, h0, h1, h2]⟩
    refine .inr ⟨h2, ?_⟩
    by_cases h3 : x.f3 < 1
    · exact .inl ⟨h3, by simp [h, h0, h1, h2, h3]⟩
    refine .inr ⟨by simpa using h3, ?_⟩
    by_cases h4 : 4 < x.f3
    · exact .inl ⟨h4, by simp [h, h0, h1, h2, h3, h4]⟩
    exact .inr ⟨by simpa using h4, by simp [h, h0, h1, h2, h3, h4]⟩
  clear hV hB hM d0 d1 d2 d3 d4 k0 k1 k2 k4
  rcases hcase with ⟨rfl, rfl⟩ | ⟨rfl, ⟨t0, rfl⟩ | ⟨t0, t0', ⟨t1, rfl⟩ | ⟨t1, ⟨t2, rfl⟩ | ⟨t2, ⟨t3, rfl⟩ | ⟨t3, ⟨t4, rfl⟩ | ⟨t4, hV⟩⟩⟩⟩⟩⟩
  case inr.inr.inr.inr.inr.inr =>
    go_enter Tryd.func48, Tryd.ntmps48
    go_wp2
    refine wp_region_below (by kernel_rfl) (by kernel_rfl) ?_
    intro S _ F hF hS
    have e0 := fcell hF (b := w.heap.size) (o := 0) (v := .pointer (some ⟨g, 0, none⟩)) (by simp [go_sem])
    have e1 := fcell hF (b := w.heap.size + 1) (o := 0) (v := .int .i64 x.f0) (by simp [go_sem])
    have e2 := fcell hF (b := w.heap.size + 1) (o := 1) (v := .int .u32 x.f1) (by simp [go_sem])
    have e3 := fcell hF (b := w.heap.size + 1) (o := 3) (v := .int .i64 x.f3) (by simp [go_sem])
    have e4 := fcell hF (b := g) (o := 0) (v := .slice A0 B.pcs.length c0) (cellk (bal (bal (Below.refl w.heap.size w) _) _) u0)
    have e5 := fcell hF (b := g) (o := 1) (v := .slice A1 B.ops.length c1) (cellk (bal (bal (Below.refl w.heap.size w) _) _) u1)
    have e6 := fcell hF (b := w.heap.size + 1) (o := 4) (v := .slice A4 x.f4.length c4) (by simp [go_sem])
    have HRF : ∀ s, Hid (Below w.heap.size w (F s)) := fun s => Lib.hid (bthen (bal (bal (Below.refl w.heap.size w) _) _) (hF s))
    repeat (go_big_quiet_step (first | (go_at_call 51; exact qbelow hS (HX.out _ (HRF _).out)) | fail))
    refine wpQuiet_nil ?_
    intro w2 hw2
    obtain ⟨s2, rfl⟩ := hw2
    have HB2 := Lib.hid (HRF s2).out
    have v6 := e6 s2
    have HVV := Lib.hid hV
    clear e6 hV e0 e1 e2 e3 e4 e5 hF hS HRF HX
    generalize F s2 = w2 at *
    go_wp2
    go_loopw [6, 62] (fun l i wr => ∃ (j : Nat) (last : Int), j ≤ x.f4.length ∧ l = .int .i64 last ∧ i = .int .i64 j ∧ Hid (V = risingB last (x.f4.drop j)) ∧ Hid (Below w2.heap.size w2 wr)) (fun _ i _ => x.f4.length - (intOf i).toNat)
    case atStart => exact ⟨0, 0, Nat.zero_le _, rfl, rfl, HVV, Lib.hid (Below.refl _ _)⟩
    case round =>
      obtain ⟨j, last, hj, rfl, rfl, HT, HB⟩ := hrel
      have HBW := Lib.hid (bthen HB2.out HB.out)
      clear HVV
      by_cases hlt : j < x.f4.length
      · obtain ⟨ad, rfl, f0, f1⟩ := at_T56 (Kd.C_below HC.out HBW.out) (j : Int) (by omega) (by omega)
        have hD := rising_drop last x.f4 j hlt
        have hT := HT.out
        rw [hD] at hT
        simp only [Int.toNat_natCast] at f0 f1
        clear hD HT
        generalize rd_T56 x.f4 (j : Int) = q at *
        by_cases q0 : q.f0 ≤ last
        · have HT := Lib.hid (show V = false by rw [hT]; simp [q0])
          clear hT
          go_wp2
          go_ret
          exact ⟨ret_b HT.out.symm, bal HBW.out _⟩
        by_cases q1 : 31 < q.f0
        · have HT := Lib.hid (show V = false by rw [hT]; simp [q1])
          clear hT
          go_wp2
          go_ret
          exact ⟨ret_b HT.out.symm, bal HBW.out _⟩
        have HT := Lib.hid (show V = risingB q.f0 (x.f4.drop (j + 1)) by rw [hT]; simp [q0, q1])
        clear hT
        go_wp2
        go_roundw
        case rel => exact ⟨j + 1, q.f0, by omega, rfl, by go_num, HT, Lib.hid (bal HB.out _)⟩
        case measure => simp [intOf]; omega
      · obtain rfl : j = x.f4.length := by omega
        have hT := HT.out
        rw [List.drop_length] at hT
        have HT' := Lib.hid hT
        clear hT HT
        go_wp2
        go_ret
        exact ⟨ret_b (by rw [HT'.out]; rfl), HBW.out⟩
  all_goals
    go_enter Tryd.func48, Tryd.ntmps48
    go_wp2
    refine wp_region_below (by kernel_rfl) (by kernel_rfl) ?_
    intro S _ F hF hS
    have e0 := fcell hF (b := w.heap.size) (o := 0) (v := .pointer (some ⟨g, 0, none⟩)) (by simp [go_sem])
    have e1 := fcell hF (b := w.heap.size + 1) (o := 0) (v := .int .i64 x.f0) (by simp [go_sem])
    have e2 := fcell hF (b := w.heap.size + 1) (o := 1) (v := .int .u32 x.f1) (by simp [go_sem])
    have e3 := fcell hF (b := w.heap.size + 1) (o := 3) (v := .int .i64 x.f3) (by simp [go_sem])
    have e4 := fcell hF (b := g) (o := 0) (v := .slice A0 B.pcs.length c0) (cellk (bal (bal (Below.refl w.heap.size w) _) _) u0)
    have e5 := fcell hF (b := g) (o := 1) (v := .slice A1 B.ops.length c1) (cellk (bal (bal (Below.refl w.heap.size w) _) _) u1)
    have HRF : ∀ s, Hid (Below w.heap.size w (F s)) := fun s => Lib.hid (bthen (bal (bal (Below.refl w.heap.size w) _) _) (hF s))
    repeat (go_big_quiet_step (first | (go_at_call 51; exact qbelow hS (HX.out _ (HRF _).out)) | fail))
    refine wpQuiet_nil ?_
    intro w2 hw2
    obtain ⟨s2, rfl⟩ := hw2
    have HB2 := Lib.hid (HRF s2).out
    clear e0 e1 e2 e3 e4 e5 hF hS HRF HX
    generalize F s2 = w2 at *
    go_wp2
    go_ret
    exact ⟨rfl, HB2.out⟩
end Go.Proofs.YtlnbghhhifnbdaaDoor

/- Contracts of the judge's right, of its closure and of the library's functions that go over the places with it, and of ir.Check. Conditions: the block reads as the given one, its lists have at most a million entries. -/
namespace Go.Proofs.YtlnbghhhifnbdaaDoor
open Go.RowKit Go.Proofs.YtlnbghhhifnbdaaDoorW.PrintWords Go.Proofs.YtlnbghhhifnbdaaDoor.PIrTexts
set_option linter.unusedVariables false
set_option linter.unusedSimpArgs false

def oddB (pc : Int) : Bool := pc.tmod 4 != 0
theorem oddfn_c (pc : Int) (w : World) : Calls Tryd.prog 49 #[.int .u32 pc] w fun e w' => e = .returned (.bool (oddB pc)) ∧ w = w' := by
  by_cases h : pc.tmod 4 = 0
  · go_enter Tryd.func49, Tryd.ntmps49
    go_wp2
    go_ret
    exact ⟨ret_b (by simp [oddB, h]), rfl⟩
  · have h2 : (pc.tmod 4 != 0) = true := by simpa using h
    go_enter Tryd.func49, Tryd.ntmps49
    go_wp2
    go_ret
    exact ⟨ret_b (by simp [oddB, h]), rfl⟩
set_option maxHeartbeats 2000000 in
theorem uindex_c (A : Option Addr) (c : Nat) (xs : List Int) (hx : xs.length ≤ 1000000) (w : World) (hC : (Kd.int .u32).C w A xs.length xs) :
    Calls Tryd.prog 65 #[.slice A xs.length c, .func (.func 49) #[] #[]] w fun e w' => (∃ v, e = .returned (.int .i64 v) ∧ ((0 ≤ v ∧ xs.any oddB = true) ∨ (v = -1 ∧ xs.any oddB = false))) ∧ w = w' := by
  have HF := Lib.hid (fun q => oddfn_c q w)
  have HC := Lib.hid hC
  clear hC
  go_enter Tryd.func65, Tryd.ntmps65
  go_wp2
  go_loopw [8] (fun i wr => ∃ k : Nat, k ≤ xs.length ∧ i = .int .i64 k ∧ Hid ((xs.take k).any oddB = false) ∧ w = wr) (fun i _ => xs.length - (intOf i).toNat)
  case atStart => exact ⟨0, Nat.zero_le _, rfl, Lib.hid (by simp), rfl⟩
  case round =>
    obtain ⟨k, hk, rfl, HN, rfl⟩ := hrel
    by_cases hlt : k < xs.length
    · obtain ⟨ad, rfl, d0⟩ := Kd.at_int HC.out (k : Int) (by omega) (by omega)
      have hq : rd xs (k : Int) = xs[k] := by simp [rd, hlt]
      have hT : (xs.take (k + 1)).any oddB = ((xs.take k).any oddB || oddB (rd xs (k : Int))) := by
        rw [hq, List.take_succ_eq_append_getElem hlt, List.any_append]
        simp
      have hA : oddB (rd xs (k : Int)) = true → xs.any oddB = true := fun h => List.any_eq_true.2 ⟨_, by rw [hq]; exact List.getElem_mem hlt, h⟩
      have HT := Lib.hid hT
      have HA := Lib.hid hA
      have HE := Lib.hid (HF.out (rd xs (k : Int)))
      simp only [Int.toNat_natCast] at d0
      clear hq hT hA
      generalize rd xs (k : Int) = q at *
      rcases Bool.eq_false_or_eq_true (oddB q) with hb | hb
      · have HA' := Lib.hid (HA.out hb)
        rw [hb] at HE
        clear HA HT hb
        go_wp2_with fail
        refine HE.out.mono ?_
        rintro e w1 ⟨rfl, rfl⟩
        go_wp2
        go_ret
        exact ⟨⟨_, rfl, .inl ⟨by omega, HA'.out⟩⟩, rfl⟩
      · have HT' := Lib.hid (show (xs.take (k + 1)).any oddB = false by rw [HT.out, HN.out, hb]; rfl)
        rw [hb] at HE
        clear HA HT hb
        go_wp2_with fail
        refine HE.out.mono ?_
        rintro e w1 ⟨rfl, rfl⟩
        go_wp2
        go_roundw
        case rel => exact ⟨k + 1, by omega, by go_num, HT', trivial⟩
        case measure => simp [intOf]; omega
    · obtain rfl : k = xs.length := by omega
      have hN := HN.out
      rw [List.take_length] at hN
      have HN' := Lib.hid hN
      clear hN
      go_wp2
      go_ret
      exact ⟨⟨_, rfl, .inr ⟨rfl, HN'.out⟩⟩, rfl⟩
theorem ucontains_c (A : Option Addr) (c : Nat) (xs : List Int) (hx : xs.length ≤ 1000000) (w : World) (hC : (Kd.int .u32).C w A xs.length xs) :
    Calls Tryd.prog 50 #[.slice A xs.length c, .func (.func 49) #[] #[]] w fun e w' => e = .returned (.bool (xs.any oddB)) ∧ Below w.heap.size w w' := by
  have HI := Lib.hid (uindex_c A c xs hx w hC)
  clear hC
  go_enter Tryd.func50, Tryd.ntmps50
  go_wp2_with fail
  refine HI.out.mono ?_
  rintro e w1 ⟨⟨v, rfl, hv⟩, rfl⟩
  rcases hv with ⟨h0, h⟩ | ⟨rfl, h⟩
  · have HH := Lib.hid h
    clear h
    go_wp2
    go_ret
    exact ⟨ret_b (by rw [HH.out]), Below.refl _ _⟩
  · have HH := Lib.hid h
    clear h
    go_wp2
    go_ret
    exact ⟨ret_b (by rw [HH.out]), Below.refl _ _⟩
def rightB (B : BlkV) : Bool :=
  (List.range B.ops.length).all (fun k => opB B k) && ((List.range B.exits.length).all (fun n => leavesB B n) && (decide (0 < B.pcs.length) && (!(B.pcs.any oddB) && exitB B B.last B.ops.length)))
theorem rangeall_succ (k : Nat) (f : Nat → Bool) : (List.range (k + 1)).all f = ((List.range k).all f && f k) := by
  rw [List.range_succ, List.all_append]
  simp
theorem rangeall_no (n k : Nat) (f : Nat → Bool) (h : k < n) (hf : f k = false) : (List.range n).all f = false :=
  List.all_eq_false.2 ⟨k, List.mem_range.2 h, by simp [hf]⟩
set_option maxHeartbeats 4000000 in
theorem right_c (B : BlkV) (g : Nat) (w : World) (hB : BlockAt w g B) (hM : Maps B) (hP : B.pcs.length ≤ 1000000) (hO : B.ops.length ≤ 1000000) (hE : B.exits.length ≤ 1000000) :
    Calls Tryd.prog 22 #[.agg #[.pointer (some ⟨g, 0, none⟩)]] w fun e w' => e = .returned (.bool (rightB B)) ∧ Below w.heap.size w w' := by
  obtain ⟨A0, c0, pc0, k0⟩ := hB.pcs
  obtain ⟨A1, c1, pc1, k1⟩ := hB.ops
  obtain ⟨A2, c2, pc2, k2⟩ := hB.exits
  have pc3 := hB.last
  have hg : g < w.heap.size := World.block_lt_of_cell? w ⟨g, 1, none⟩ pc1
  have hg2 : ¬ g = w.heap.size := by omega
  have HO := Lib.hid (fun (k : Int) (h0 : 0 ≤ k) (h1 : k < (B.ops.length : Int)) v (hb : Below w.heap.size w v) => op_c B g k h0 h1 v (hB.below hb) hM)
  have HL := Lib.hid (fun (n : Int) (h0 : 0 ≤ n) (h1 : n < (B.exits.length : Int)) v (hb : Below w.heap.size w v) => leaves_c B g n h0 h1 v (hB.below hb) hM hP hO)
  have HU := Lib.hid (fun v (hb : Below w.heap.size w v) => ucontains_c A0 c0 B.pcs hP v (Kd.C_below k0 hb))
  have HX := Lib.hid (fun v (hb : Below w.heap.size w v) => exit_c B g B.last (B.ops.length : Int) v (hB.below hb) hM)
  obtain ⟨V, hV⟩ : ∃ V, V = rightB B := ⟨_, rfl⟩
  rw [← hV]
  unfold rightB at hV
  have HVV := Lib.hid hV
  clear hV hB hM k0 k1 k2
  generalize hlp : B.pcs.length = lp at *
  generalize hlo : B.ops.length = lo at *
  generalize hle : B.exits.length = le at *
  generalize hfo : (fun k : Nat => opB B k) = fo at *
  generalize hfl : (fun n : Nat => leavesB B n) = fl at *
  have ho : ∀ k : Nat, opB B k = fo k := fun k => by rw [← hfo]
  have hl : ∀ k : Nat, leavesB B k = fl k := fun k => by rw [← hfl]
  have HOO := Lib.hid ho
  have HLL := Lib.hid hl
  clear ho hl hfo hfl
  go_enter Tryd.func22, Tryd.ntmps22
  go_wp2
  go_loopw [12] (fun i wr => ∃ j : Nat, j ≤ lo ∧ i = .int .i64 j ∧ Hid ((List.range j).all fo = true) ∧ Hid (Below w.heap.size w wr) ∧ wr.cell? ⟨w.heap.size, 0, none⟩ = some (.pointer (some ⟨g, 0, none⟩))) (fun i _ => lo - (intOf i).toNat)
  case atStart => exact ⟨0, Nat.zero_le _, rfl, Lib.hid (by simp), Lib.hid (bal (Below.refl _ _) _), by simp [go_sem]⟩
  case round =>
    obtain ⟨j, hj, rfl, HT, HB, x0⟩ := hrel
    by_cases hlt : j < lo
    · have HE := Lib.hid (HO.out (j : Int) (by omega) (by omega) _ HB.out)
      rw [HOO.out j] at HE
      have HTT := Lib.hid (rangeall_succ j fo)
      have HN := Lib.hid (fun h => rangeall_no lo j fo hlt h)
      rcases Bool.eq_false_or_eq_true (fo j) with hb | hb
      · have HT' := Lib.hid (show (List.range (j + 1)).all fo = true by rw [HTT.out, HT.out, hb]; rfl)
        rw [hb] at HE
        clear HTT HN hb
        go_wp2_with fail
        refine HE.out.mono ?_
        rintro e w1 ⟨rfl, hb1⟩
        have x1 := cellk hb1 x0
        have HB1 := Lib.hid (bthen HB.out hb1)
        clear hb1
        go_wp2
        go_roundw
        case rel => exact ⟨j + 1, by omega, by go_num, HT', HB1, x1⟩
        case measure => simp [intOf]; omega
      · have HN' := Lib.hid (HN.out hb)
        rw [hb] at HE
        clear HTT HN hb
        go_wp2_with fail
        refine HE.out.mono ?_
        rintro e w1 ⟨rfl, hb1⟩
        have HB1 := Lib.hid (bthen HB.out hb1)
        clear hb1
        go_wp2
        go_ret
        exact ⟨ret_b (by rw [HVV.out, HN'.out, Bool.false_and]), HB1.out⟩
    · have hjo : lo = j := by omega
      subst hjo
      have y1 := cellk HB.out pc2
      clear HO HOO
      go_wp2
      go_loopw [26] (fun i wr2 => ∃ j : Nat, j ≤ le ∧ i = .int .i64 j ∧ Hid ((List.range j).all fl = true) ∧ Hid (Below w.heap.size w wr2) ∧ wr2.cell? ⟨w.heap.size, 0, none⟩ = some (.pointer (some ⟨g, 0, none⟩))) (fun i _ => le - (intOf i).toNat)
      case atStart => exact ⟨0, Nat.zero_le _, rfl, Lib.hid (by simp), HB, x0⟩
      case round =>
        clear x0 HB y1
        obtain ⟨j, hj, rfl, HT2, HB, x0⟩ := hrel
        by_cases hlt : j < le
        · have HE := Lib.hid (HL.out (j : Int) (by omega) (by omega) _ HB.out)
          rw [HLL.out j] at HE
          have HTT := Lib.hid (rangeall_succ j fl)
          have HN := Lib.hid (fun h => rangeall_no le j fl hlt h)
          rcases Bool.eq_false_or_eq_true (fl j) with hb | hb
          · have HT' := Lib.hid (show (List.range (j + 1)).all fl = true by rw [HTT.out, HT2.out, hb]; rfl)
            rw [hb] at HE
            clear HTT HN hb
            go_wp2_with fail
            refine HE.out.mono ?_
            rintro e w1 ⟨rfl, hb1⟩
            have x1 := cellk hb1 x0
            have HB1 := Lib.hid (bthen HB.out hb1)
            clear hb1
            go_wp2
            go_roundw
            case rel => exact ⟨j + 1, by omega, by go_num, HT', HB1, x1⟩
            case measure => simp [intOf]; omega
          · have HN' := Lib.hid (HN.out hb)
            rw [hb] at HE
            clear HTT HN hb
            go_wp2_with fail
            refine HE.out.mono ?_
            rintro e w1 ⟨rfl, hb1⟩
            have HB1 := Lib.hid (bthen HB.out hb1)
            clear hb1
            go_wp2
            go_ret
            exact ⟨ret_b (by rw [HVV.out, HN'.out, Bool.false_and, Bool.and_false]), HB1.out⟩
        · have hje : le = j := by omega
          subst hje
          have y0 := cellk HB.out pc0
          have y1 := cellk HB.out pc1
          have y3 := cellk HB.out pc3
          have HV2 := Lib.hid (show V = (decide (0 < lp) && (!(B.pcs.any oddB) && exitB B B.last lo)) by rw [HVV.out, HT.out, HT2.out]; rfl)
          clear HL HLL HVV HT HT2
          generalize B.pcs.any oddB = u at *
          generalize exitB B B.last lo = x at *
          generalize B.last = last at *
          have hcase : (lp = 0 ∧ V = false) ∨ (0 < lp ∧ ((u = true ∧ V = false) ∨ (u = false ∧ V = x))) := by
            rw [HV2.out]
            by_cases h : 0 < lp
            · cases u <;> simp [h]
            · exact .inl ⟨by omega, by simp [h]⟩
          clear HV2
          rcases hcase with ⟨q0, rfl⟩ | ⟨q0, ⟨rfl, rfl⟩ | ⟨rfl, rfl⟩⟩
          · have q1 : decide ((0 : Int) < (lp : Int)) = false := by simp [q0]
            go_wp2
            refine wp_region_below (by kernel_rfl) (by kernel_rfl) ?_
            intro S _ F hF hS
            have e0 := fcell hF (b := w.heap.size) (o := 0) (v := .pointer (some ⟨g, 0, none⟩)) x0
            have e1 := fcell hF (b := g) (o := 0) (v := .slice A0 lp c0) y0
            have e2 := fcell hF (b := g) (o := 1) (v := .slice A1 lo c1) y1
            have e3 := fcell hF (b := g) (o := 3) (v := .int .i64 last) y3
            have HRF : ∀ s, Hid (Below w.heap.size w (F s)) := fun s => Lib.hid (bthen HB.out (hF s))
            clear x0 y0 y1 y3
            repeat (go_big_quiet_step (first | (go_at_call 50; exact qbelow hS (HU.out _ (HRF _).out)) | (go_at_call 51; exact qbelow hS (HX.out _ (HRF _).out)) | fail))
            refine wpQuiet_nil ?_
            intro w2 hw2
            obtain ⟨s2, rfl⟩ := hw2
            have HB2 := Lib.hid (HRF s2).out
            clear e0 e1 e2 e3 hF hS HRF HX HU
            generalize F s2 = w2 at *
            go_wp2
            go_ret
            exact ⟨rfl, HB2.out⟩
          · have q1 : (0 : Int) < (lp : Int) := by omega
            go_wp2
            refine wp_region_below (by kernel_rfl) (by kernel_rfl) ?_
            intro S _ F hF hS
            have e0 := fcell hF (b := w.heap.size) (o := 0) (v := .pointer (some ⟨g, 0, none⟩)) x0
            have e1 := fcell hF (b := g) (o := 0) (v := .slice A0 lp c0) y0
            have e2 := fcell hF (b := g) (o := 1) (v := .slice A1 lo c1) y1
            have e3 := fcell hF (b := g) (o := 3) (v := .int .i64 last) y3
            have HRF : ∀ s, Hid (Below w.heap.size w (F s)) := fun s => Lib.hid (bthen HB.out (hF s))
            clear x0 y0 y1 y3
            repeat (go_big_quiet_step (first | (go_at_call 50; exact qbelow hS (HU.out _ (HRF _).out)) | (go_at_call 51; exact qbelow hS (HX.out _ (HRF _).out)) | fail))
            refine wpQuiet_nil ?_
            intro w2 hw2
            obtain ⟨s2, rfl⟩ := hw2
            have HB2 := Lib.hid (HRF s2).out
            clear e0 e1 e2 e3 hF hS HRF HX HU
            generalize F s2 = w2 at *
            go_wp2
            go_ret
            exact ⟨rfl, HB2.out⟩
          · have q1 : (0 : Int) < (lp : Int) := by omega
            go_wp2
            refine wp_region_below (by kernel_rfl) (by kernel_rfl) ?_
            intro S _ F hF hS
            have e0 := fcell hF (b := w.heap.size) (o := 0) (v := .pointer (some ⟨g, 0, none⟩)) x0
            have e1 := fcell hF (b := g) (o := 0) (v := .slice A0 lp c0) y0
            have e2 := fcell hF (b := g) (o := 1) (v := .slice A1 lo c1) y1
            have e3 := fcell hF (b := g) (o := 3) (v := .int .i64 last) y3
            have HRF : ∀ s, Hid (Below w.heap.size w (F s)) := fun s => Lib.hid (bthen HB.out (hF s))
            clear x0 y0 y1 y3
            repeat (go_big_quiet_step (first | (go_at_call 50; exact qbelow hS (HU.out _ (HRF _).out)) | (go_at_call 51; exact qbelow hS (HX.out _ (HRF _).out)) | fail))
            refine wpQuiet_nil ?_
            intro w2 hw2
            obtain ⟨s2, rfl⟩ := hw2
            have HB2 := Lib.hid (HRF s2).out
            clear e0 e1 e2 e3 hF hS HRF HX HU
            generalize F s2 = w2 at *
            go_wp2
            go_ret
            exact ⟨rfl, HB2.out⟩
end Go.Proofs.YtlnbghhhifnbdaaDoor

/- Contract of ir.Check. Conditions: the block reads as the given one, its lists have at most a million entries. -/
namespace Go.Proofs.YtlnbghhhifnbdaaDoor
open Go.RowKit Go.Proofs.YtlnbghhhifnbdaaDoorW.PrintWords Go.Proofs.YtlnbghhhifnbdaaDoor.PIrTexts
set_option linter.unusedVariables false
set_option linter.unusedSimpArgs false

def checkB (B : BlkV) : Int :=
  if 32 < B.pcs.length ∨ 512 < B.ops.length ∨ 128 < B.exits.length then 3 else if rightB B = true then 0 else 1
set_option maxHeartbeats 2000000 in
theorem check_c (B : BlkV) (g : Nat) (w : World) (hB : BlockAt w g B) (hM : Maps B) (hP : B.pcs.length ≤ 1000000) (hO : B.ops.length ≤ 1000000) (hE : B.exits.length ≤ 1000000) :
    Calls Tryd.prog 9 #[.pointer (some ⟨g, 0, none⟩)] w fun e w' => e = .returned (.int .i64 (checkB B)) ∧ Below w.heap.size w w' := by
  obtain ⟨A0, c0, pc0, k0⟩ := hB.pcs
  obtain ⟨A1, c1, pc1, k1⟩ := hB.ops
  obtain ⟨A2, c2, pc2, k2⟩ := hB.exits
  have HR := Lib.hid (right_c B g w hB hM hP hO hE)
  have hc : checkB B = if 32 < B.pcs.length ∨ 512 < B.ops.length ∨ 128 < B.exits.length then 3 else if rightB B = true then 0 else 1 := rfl
  rw [hc]
  clear hc hB hM k0 k1 k2
  generalize rightB B = r at *
  generalize B.pcs.length = lp at *
  generalize B.ops.length = lo at *
  generalize B.exits.length = le at *
  rcases (by omega : 32 < lp ∨ (lp ≤ 32 ∧ (512 < lo ∨ (lo ≤ 512 ∧ (128 < le ∨ le ≤ 128))))) with h0 | ⟨h0, h1 | ⟨h1, h2 | h2⟩⟩
  · rw [if_pos (by omega)]
    go_enter Tryd.func9, Tryd.ntmps9
    go_wp2
    go_ret
    exact ⟨rfl, Below.refl _ _⟩
  · rw [if_pos (by omega)]
    go_enter Tryd.func9, Tryd.ntmps9
    go_wp2
    go_ret
    exact ⟨rfl, Below.refl _ _⟩
  · rw [if_pos (by omega)]
    go_enter Tryd.func9, Tryd.ntmps9
    go_wp2
    go_ret
    exact ⟨rfl, Below.refl _ _⟩
  · rw [if_neg (by omega)]
    cases r
    · go_enter Tryd.func9, Tryd.ntmps9
      go_wp2_with fail
      refine HR.out.mono ?_
      rintro e w1 ⟨rfl, hb1⟩
      have HB1 := Lib.hid hb1
      clear hb1
      go_wp2
      go_ret
      exact ⟨rfl, HB1.out⟩
    · go_enter Tryd.func9, Tryd.ntmps9
      go_wp2_with fail
      refine HR.out.mono ?_
      rintro e w1 ⟨rfl, hb1⟩
      have HB1 := Lib.hid hb1
      clear hb1
      go_wp2
      go_ret
      exact ⟨rfl, HB1.out⟩
end Go.Proofs.YtlnbghhhifnbdaaDoor

/- Contract of the law's Own: it answers a block of the program's that reads as the given one. Conditions: the lists read as the given ones, and have at most a million entries. -/
namespace Go.Proofs.YtlnbghhhifnbdaaDoor
open Go.RowKit Go.Proofs.YtlnbghhhifnbdaaDoorW.PrintWords Go.Proofs.YtlnbghhhifnbdaaDoor.PIrTexts
set_option linter.unusedVariables false
set_option linter.unusedSimpArgs false

def opOf (o : S38) : S41 := ⟨o.f0, o.f1, o.f2, o.f3, o.f4, o.f5⟩
def valOf (v : S62) : S56 := ⟨v.f0, v.f1⟩
def exitOf (e : S59) : S54 := ⟨e.f0, e.f1, e.f2, e.f3, e.f4.map valOf⟩
def blkOf (pcs : List Int) (ops : List S38) (exits : List S59) (last : Int) : BlkV := ⟨pcs, ops.map opOf, exits.map exitOf, last⟩
theorem infoOp : (Tryd.prog.info? 41).map (fun i => (i.zero, i.size, i.bytes)) = some (some (.agg #[.int .i64 0, .int .i64 0, .int .i64 0, .int .u32 0, .int .i64 0, .int .i64 0]), 6, 48) := by kernel_rfl
theorem infoVal : (Tryd.prog.info? 56).map (fun i => (i.zero, i.size, i.bytes)) = some (some (.agg #[.int .i64 0, .int .i64 0]), 2, 16) := by kernel_rfl
theorem infoExit : (Tryd.prog.info? 54).map (fun i => (i.zero, i.size, i.bytes)) = some (some (.agg #[.int .i64 0, .int .u32 0, .int .i64 0, .int .i64 0, .slice none 0 0]), 5, 56) := by kernel_rfl
/-- The state of Own: the given block in its cells, and the new one. -/
structure OwnSt (w wr : World) (a0 a1 a2 : Value) (last : Int) (v1 v2 : Value) : Prop where
  b0 : wr.heap[w.heap.size]? = some (.cells #[a0, a1, a2, .int .i64 last] 26 (0, 0))
  b1 : wr.heap[w.heap.size + 1]? = some (.cells #[a0, v1, v2, .int .i64 last] 51 (0, 0))
  bel : Below w.heap.size w wr
section
variable {w wr w1 : World} {a0 a1 a2 v1 v2 u : Value} {last : Int}
theorem OwnSt.c1 (h : OwnSt w wr a0 a1 a2 last v1 v2) : wr.cell? ⟨w.heap.size, 1, none⟩ = some a1 := by rw [blk_cell h.b0]; rfl
theorem OwnSt.c2 (h : OwnSt w wr a0 a1 a2 last v1 v2) : wr.cell? ⟨w.heap.size, 2, none⟩ = some a2 := by rw [blk_cell h.b0]; rfl
theorem OwnSt.d1 (h : OwnSt w wr a0 a1 a2 last v1 v2) : wr.cell? ⟨w.heap.size + 1, 1, none⟩ = some v1 := by rw [blk_cell h.b1]; rfl
theorem OwnSt.d2 (h : OwnSt w wr a0 a1 a2 last v1 v2) : wr.cell? ⟨w.heap.size + 1, 2, none⟩ = some v2 := by rw [blk_cell h.b1]; rfl
theorem OwnSt.f1 (h : OwnSt w wr a0 a1 a2 last v1 v2) (i : Nat) : wr.frozen? ⟨w.heap.size + 1, i, none⟩ = false := blk_frozen h.b1 i
theorem OwnSt.lt (h : OwnSt w wr a0 a1 a2 last v1 v2) : w.heap.size + 1 < wr.heap.size := blk_lt h.b1
theorem OwnSt.below (h : OwnSt w wr a0 a1 a2 last v1 v2) (hb : Below wr.heap.size wr w1) : OwnSt w w1 a0 a1 a2 last v1 v2 := ⟨blk_below h.b0 hb, blk_below h.b1 hb, bthen h.bel hb⟩
theorem OwnSt.grown {row : Option Nat} (h : OwnSt w wr a0 a1 a2 last v1 v2) (hg : wr.grownBy w1 row) (hr : ∀ k, row = some k → w.heap.size + 1 < k) : OwnSt w w1 a0 a1 a2 last v1 v2 :=
  ⟨blk_grown h.b0 hg (fun e => by have := hr _ e.symm; omega), blk_grown h.b1 hg (fun e => by have := hr _ e.symm; omega), pw_below_grown h.bel row h.bel.size hg (fun k hk => by have := hr k hk; omega)⟩
theorem OwnSt.set1 (h : OwnSt w wr a0 a1 a2 last v1 v2) (u : Value) : OwnSt w (wr.setCell ⟨w.heap.size + 1, 1, none⟩ u) a0 a1 a2 last u v2 :=
  ⟨blk_far h.b0 (by simp) u, blk_set h.b1 1 u, bset h.bel (by simp) u⟩
theorem OwnSt.set2 (h : OwnSt w wr a0 a1 a2 last v1 v2) (u : Value) : OwnSt w (wr.setCell ⟨w.heap.size + 1, 2, none⟩ u) a0 a1 a2 last v1 u :=
  ⟨blk_far h.b0 (by simp) u, blk_set h.b1 2 u, bset h.bel (by simp) u⟩
end
theorem OwnSt.row {w wr : World} {a0 a1 a2 v1 v2 u : Value} {last : Int} {α : Type} {d : Kd α} {e : Nat} {ok : Nat → Prop} {xs : List α} (h : OwnSt w wr a0 a1 a2 last v1 v2) (hr : d.R e wr w.heap.size ok u xs) (h1 : e ≠ 26) (h2 : e ≠ 51) : ∀ k, u.ownBlock = some k → w.heap.size + 1 < k := by
  intro k hk
  have a := Kd.R_base hr k hk
  have b : some w.heap.size ≠ u.ownBlock := Kd.R_ne hr h.b0 h1
  have c : some (w.heap.size + 1) ≠ u.ownBlock := Kd.R_ne hr h.b1 h2
  rw [hk] at b c
  have b' : w.heap.size ≠ k := fun e => b (by rw [e])
  have c' : w.heap.size + 1 ≠ k := fun e => c (by rw [e])
  omega
/-- The state of Own's inner loop: the given exit in its cells, and the new one. -/
structure OwnMp (w wr : World) (q : S59) (v4 vm : Value) : Prop where
  b0 : wr.heap[w.heap.size]? = some (.cells #[.int .i64 q.f0, .int .u32 q.f1, .int .i64 q.f2, .int .i64 q.f3, v4] 59 (0, 0))
  b1 : wr.heap[w.heap.size + 1]? = some (.cells #[.int .i64 q.f0, .int .u32 q.f1, .int .i64 q.f2, .int .i64 q.f3, vm] 54 (0, 0))
  bel : Below w.heap.size w wr
section
variable {w wr w1 : World} {q : S59} {v4 vm u : Value}
theorem OwnMp.c4 (h : OwnMp w wr q v4 vm) : wr.cell? ⟨w.heap.size, 4, none⟩ = some v4 := by rw [blk_cell h.b0]; rfl
theorem OwnMp.d0 (h : OwnMp w wr q v4 vm) : wr.cell? ⟨w.heap.size + 1, 0, none⟩ = some (.int .i64 q.f0) := by rw [blk_cell h.b1]; rfl
theorem OwnMp.d1 (h : OwnMp w wr q v4 vm) : wr.cell? ⟨w.heap.size + 1, 1, none⟩ = some (.int .u32 q.f1) := by rw [blk_cell h.b1]; rfl
theorem OwnMp.d2 (h : OwnMp w wr q v4 vm) : wr.cell? ⟨w.heap.size + 1, 2, none⟩ = some (.int .i64 q.f2) := by rw [blk_cell h.b1]; rfl
theorem OwnMp.d3 (h : OwnMp w wr q v4 vm) : wr.cell? ⟨w.heap.size + 1, 3, none⟩ = some (.int .i64 q.f3) := by rw [blk_cell h.b1]; rfl
theorem OwnMp.d4 (h : OwnMp w wr q v4 vm) : wr.cell? ⟨w.heap.size + 1, 4, none⟩ = some vm := by rw [blk_cell h.b1]; rfl
theorem OwnMp.f4 (h : OwnMp w wr q v4 vm) (i : Nat) : wr.frozen? ⟨w.heap.size + 1, i, none⟩ = false := blk_frozen h.b1 i
theorem OwnMp.lt (h : OwnMp w wr q v4 vm) : w.heap.size + 1 < wr.heap.size := blk_lt h.b1
theorem OwnMp.below (h : OwnMp w wr q v4 vm) (hb : Below wr.heap.size wr w1) : OwnMp w w1 q v4 vm := ⟨blk_below h.b0 hb, blk_below h.b1 hb, bthen h.bel hb⟩
theorem OwnMp.grown {row : Option Nat} (h : OwnMp w wr q v4 vm) (hg : wr.grownBy w1 row) (hr : ∀ k, row = some k → w.heap.size + 1 < k) : OwnMp w w1 q v4 vm :=
  ⟨blk_grown h.b0 hg (fun e => by have := hr _ e.symm; omega), blk_grown h.b1 hg (fun e => by have := hr _ e.symm; omega), pw_below_grown h.bel row h.bel.size hg (fun k hk => by have := hr k hk; omega)⟩
theorem OwnMp.set4 (h : OwnMp w wr q v4 vm) (u : Value) : OwnMp w (wr.setCell ⟨w.heap.size + 1, 4, none⟩ u) q v4 u :=
  ⟨blk_far h.b0 (by simp) u, blk_set h.b1 4 u, bset h.bel (by simp) u⟩
theorem OwnMp.row {α : Type} {d : Kd α} {e : Nat} {ok : Nat → Prop} {xs : List α} (h : OwnMp w wr q v4 vm) (hr : d.R e wr w.heap.size ok u xs) (h1 : e ≠ 59) (h2 : e ≠ 54) : ∀ k, u.ownBlock = some k → w.heap.size + 1 < k := by
  intro k hk
  have a := Kd.R_base hr k hk
  have b : some w.heap.size ≠ u.ownBlock := Kd.R_ne hr h.b0 h1
  have c : some (w.heap.size + 1) ≠ u.ownBlock := Kd.R_ne hr h.b1 h2
  rw [hk] at b c
  have b' : w.heap.size ≠ k := fun e => b (by rw [e])
  have c' : w.heap.size + 1 ≠ k := fun e => c (by rw [e])
  omega
end
theorem take_map {α β : Type} (f : α → β) (xs : List α) (k : Nat) (h : k < xs.length) : (xs.map f).take (k + 1) = (xs.map f).take k ++ [f xs[k]] := by
  rw [List.take_succ_eq_append_getElem (by simpa using h)]
  simp
set_option maxHeartbeats 8000000 in
theorem own_c (A0 A1 A2 : Option Addr) (n0 n1 n2 c0 c1 c2 : Nat) (last : Int) (pcs : List Int) (ops : List S38) (exits : List S59) (h0 : pcs.length = n0) (h1 : ops.length = n1) (h2 : exits.length = n2) (hl1 : ops.length ≤ 1000000) (hl2 : exits.length ≤ 1000000) (hM : ∀ x ∈ exits, x.f4.length ≤ 1000000) (w : World)
    (hC0 : (Kd.int .u32).C w A0 n0 pcs) (hC1 : k38.C w A1 n1 ops) (hC2 : k59.C w A2 n2 exits) :
    Calls Tryd.prog 10 #[.agg #[.slice A0 n0 c0, .slice A1 n1 c1, .slice A2 n2 c2, .int .i64 last]] w fun e w' => e = .returned (.pointer (some ⟨w.heap.size + 1, 0, none⟩)) ∧ BlockAt w' (w.heap.size + 1) (blkOf pcs ops exits last) ∧ Below w.heap.size w w' := by
  subst h0 h1 h2
  have HC0 := Lib.hid hC0
  have HC1 := Lib.hid hC1
  have HC2 := Lib.hid hC2
  have HMM := Lib.hid hM
  clear hC0 hC1 hC2 hM
  go_enter Tryd.func10, Tryd.ntmps10
  go_wp2
  go_loopw [4] (fun i wr => ∃ k : Nat, k ≤ ops.length ∧ i = .int .i64 k ∧ ∃ v1, Hid (OwnSt w wr (.slice A0 pcs.length c0) (.slice A1 ops.length c1) (.slice A2 exits.length c2) last v1 (.slice none 0 0)) ∧ Hid (Kd.R k41 41 wr w.heap.size (fun _ => True) v1 ((ops.map opOf).take k))) (fun i _ => ops.length - (intOf i).toNat)
  case atStart =>
    refine ⟨0, Nat.zero_le _, rfl, .slice none 0 0, Lib.hid ⟨?_, ?_, ?_⟩, Lib.hid (Kd.R_nil _ _ _ _ _)⟩
    · exact blk_alloc (blk_new _ _) _
    · simpa using blk_new (w.alloc _) _
    · exact bal (bal (Below.refl _ _) _) _
  case round =>
    obtain ⟨k, hk, rfl, v1, HS, HR⟩ := hrel
    have e1 := HS.out.c1
    have e2 := HS.out.d1
    have e3 := HS.out.f1 1
    have hlt0 := HS.out.lt
    have hn0 : ¬ w.heap.size = wr.heap.size := by omega
    have hn1 : ¬ w.heap.size + 1 = wr.heap.size := by omega
    by_cases hlt : k < ops.length
    · obtain ⟨ad, rfl, d0, d1, d2, d3, d4, d5⟩ := at_T38 (Kd.C_below HC1.out HS.out.bel) (k : Int) (by omega) (by omega)
      have hq : rd_T38 ops (k : Int) = ops[k] := by simp [rd_T38, hlt]
      have HT := Lib.hid (take_map opOf ops k hlt)
      rw [← hq] at HT
      simp only [Int.toNat_natCast] at d0 d1 d2 d3 d4 d5
      clear hq
      generalize rd_T38 ops (k : Int) = q at *
      have HLEN := Lib.hid (show ((ops.map opOf).take k ++ [opOf q]).length = k + 1 by simp; omega)
      go_wp2
      have HS' := Lib.hid (HS.out.below (bdn (Below.refl _ _) 1))
      have HR' := Lib.hid (Kd.R_drew HR.out)
      go_region_law (refine Kd.R_append_step k41 (w0 := w) w.heap.size rfl (.tmp 26) (.tmp 32) 48 41 (.agg #[.int .i64 0, .int .i64 0, .int .i64 0, .int .u32 0, .int .i64 0, .int .i64 0]) 48 rfl Tryd.underlying48 infoOp rfl (by decide) (by decide) v1 ((ops.map opOf).take k) (opOf q) [.int .i64 q.f0, .int .i64 q.f1, .int .i64 q.f2, .int .u32 q.f3, .int .i64 q.f4, .int .i64 q.f5] (fun _ => True) (fun _ => False) rfl rfl (k41_mkM _ _ _ _) (fun _ hk => hk.elim) (fun _ _ => trivial) HR'.out HS'.out.bel HS'.out.bel.size (by simp; omega) ?_; intro v3 w3 ho3 hb3 hg3 hat3; have HS3 := Lib.hid (HS'.out.grown hg3 (HS'.out.row HR'.out (by decide) (by decide))); obtain ⟨A3, c3, hv3⟩ := Kd.R_slice ho3; rw [HLEN.out] at hv3; subst hv3; have HR3 := Lib.hid ho3; have e5 := HS3.out.d1; have e6 := HS3.out.f1 1; clear ho3 hb3 hg3 hat3)
      all_goals
        go_wp2
        go_roundw
        case rel => exact ⟨k + 1, by omega, by go_num, _, Lib.hid (HS3.out.set1 _), Lib.hid (by rw [HT.out]; exact Kd.R_set HR3.out HS3.out.b1 (by decide) 1 _)⟩
        case measure => simp [intOf]; omega
    · have hke : ops.length = k := by omega
      have hR := HR.out
      rw [← hke, show ops.length = (ops.map opOf).length by simp, List.take_length] at hR
      have HR1 := Lib.hid hR
      have e4 := HS.out.c2
      clear hR HR e2 e3
      go_wp2
      go_loopw [5] (fun i wr2 => ∃ k : Nat, k ≤ exits.length ∧ i = .int .i64 k ∧ ∃ v2, Hid (OwnSt w wr2 (.slice A0 pcs.length c0) (.slice A1 ops.length c1) (.slice A2 exits.length c2) last v1 v2) ∧ Hid (Kd.R k41 41 wr2 w.heap.size (fun _ => True) v1 (ops.map opOf)) ∧ Hid (Kd.R k54 54 wr2 w.heap.size (fun _ => True) v2 ((exits.map exitOf).take k))) (fun i _ => exits.length - (intOf i).toNat)
      case atStart => exact ⟨0, Nat.zero_le _, rfl, .slice none 0 0, HS, HR1, Lib.hid (Kd.R_nil _ _ _ _ _)⟩
      case round =>
        clear HS HR1 e1 e4 hlt0 hn0 hn1 hlt hk hke
        obtain ⟨k, hk, rfl, v2, HS, HR1, HR2⟩ := hrel
        obtain ⟨wm, hwm⟩ : ∃ wm, wm = wr := ⟨_, rfl⟩
        subst hwm
        have e4 := HS.out.c2
        by_cases hlt : k < exits.length
        · obtain ⟨ad, A4, c4, rfl, d0, d1, d2, d3, d4, l4, k4⟩ := at_T59 (Kd.C_below HC2.out HS.out.bel) (k : Int) (by omega) (by omega)
          have hq : rd_T59 exits (k : Int) = exits[k] := by simp [rd_T59, hlt]
          have HT := Lib.hid (take_map exitOf exits k hlt)
          have hm := HMM.out exits[k] (List.getElem_mem hlt)
          rw [← hq] at HT hm
          simp only [Int.toNat_natCast] at d0 d1 d2 d3 d4
          have HK4 := Lib.hid k4
          clear hq k4
          generalize rd_T59 exits (k : Int) = q at *
          go_wp2
          go_loopw [8] (fun i wr3 => ∃ j : Nat, j ≤ q.f4.length ∧ i = .int .i64 j ∧ ∃ vm, Hid (OwnMp wm wr3 q (.slice A4 q.f4.length c4) vm) ∧ Hid (Kd.R k56 56 wr3 wm.heap.size (fun _ => True) vm ((q.f4.map valOf).take j))) (fun i _ => q.f4.length - (intOf i).toNat)
          case atStart =>
            refine ⟨0, Nat.zero_le _, rfl, .slice none 0 0, Lib.hid ⟨?_, ?_, ?_⟩, Lib.hid (Kd.R_nil _ _ _ _ _)⟩
            · exact blk_alloc (blk_new _ _) _
            · simpa using blk_new (wm.alloc _) _
            · exact bal (bal (Below.refl _ _) _) _
          case round =>
            obtain ⟨j, hj, rfl, vm, HP, HRm⟩ := hrel
            have g0 := HP.out.c4
            have hl0 := HP.out.lt
            have hl1' := HS.out.lt
            have hn0 : ¬ wm.heap.size = wr.heap.size := by omega
            have hn1 : ¬ wm.heap.size + 1 = wr.heap.size := by omega
            have hn2 : ¬ w.heap.size + 1 = wr.heap.size := by omega
            have hl3 : w.heap.size + 1 < wr.heap.size := by omega
            by_cases hlt2 : j < q.f4.length
            · have g1 := HP.out.d4
              have g2 := HP.out.f4 4
              obtain ⟨ad2, rfl, x0, x1⟩ := at_T62 (Kd.C_below HK4.out HP.out.bel) (j : Int) (by omega) (by omega)
              have hq : rd_T62 q.f4 (j : Int) = q.f4[j] := by simp [rd_T62, hlt2]
              have HT2 := Lib.hid (take_map valOf q.f4 j hlt2)
              rw [← hq] at HT2
              simp only [Int.toNat_natCast] at x0 x1
              clear hq
              generalize rd_T62 q.f4 (j : Int) = y at *
              have HLEN := Lib.hid (show ((q.f4.map valOf).take j ++ [valOf y]).length = j + 1 by simp; omega)
              go_wp2
              have HP' := Lib.hid (HP.out.below (bdn (Below.refl _ _) 1))
              have HR' := Lib.hid (Kd.R_drew HRm.out)
              go_region_law (refine Kd.R_append_step k56 (w0 := wm) wm.heap.size rfl (.tmp 65) (.tmp 71) 52 56 (.agg #[.int .i64 0, .int .i64 0]) 16 rfl Tryd.underlying52 infoVal rfl (by decide) (by decide) vm ((q.f4.map valOf).take j) (valOf y) [.int .i64 y.f0, .int .i64 y.f1] (fun _ => True) (fun _ => False) rfl rfl (k56_mkM _ _ _ _) (fun _ hk => hk.elim) (fun _ _ => trivial) HR'.out HP'.out.bel HP'.out.bel.size (by simp; omega) ?_; intro v3 w3 ho3 hb3 hg3 hat3; have HP3 := Lib.hid (HP'.out.grown hg3 (HP'.out.row HR'.out (by decide) (by decide))); obtain ⟨A3, c3, hv3⟩ := Kd.R_slice ho3; rw [HLEN.out] at hv3; subst hv3; have HR3 := Lib.hid ho3; have e5 := HP3.out.d4; have e6 := HP3.out.f4 4; clear ho3 hb3 hg3 hat3)
              all_goals
                go_wp2
                go_roundw
                case rel => exact ⟨j + 1, by omega, by go_num, _, Lib.hid (HP3.out.set4 _), Lib.hid (by rw [HT2.out]; exact Kd.R_set HR3.out HP3.out.b1 (by decide) 4 _)⟩
                case measure => simp [intOf]; omega
            · have hje : q.f4.length = j := by omega
              have hRm := HRm.out
              rw [← hje, show q.f4.length = (q.f4.map valOf).length by simp, List.take_length] at hRm
              have hokp : Kd.R k56 56 wr w.heap.size (fun k => wm.heap.size ≤ k) vm (q.f4.map valOf) := Kd.R_mono (Kd.R_lower (Kd.R_bound hRm) HS.out.bel.size) (fun k hk => hk.2.1)
              obtain ⟨Am, cm, hvm⟩ := Kd.R_slice hRm
              rw [List.length_map] at hvm
              subst hvm
              have HRm1 := Lib.hid (Kd.R_drew hokp)
              have HS' := Lib.hid ((HS.out.below HP.out.bel).below (bdn (Below.refl _ _) 1))
              have HR1' := Lib.hid (Kd.R_drew (Kd.R_below HR1.out HP.out.bel))
              have HR2' := Lib.hid (Kd.R_drew (Kd.R_below HR2.out HP.out.bel))
              have HLT2 := Lib.hid (fun k hk => Kd.R_lt HR2.out k hk)
              have HLEN := Lib.hid (show ((exits.map exitOf).take k ++ [exitOf q]).length = k + 1 by simp; omega)
              have i0 := HP.out.d0
              have i1 := HP.out.d1
              have i2 := HP.out.d2
              have i3 := HP.out.d3
              have i4 := HP.out.d4
              have i5 := (HS.out.below HP.out.bel).d2
              have i6 := (HS.out.below HP.out.bel).f1 2
              clear hje hRm hokp HRm e4 d0 d1 d2 d3 d4
              go_wp2
              go_region_law (refine Kd.R_append_step k54 (w0 := w) w.heap.size rfl (.tmp 78) (.tmp 80) 49 54 (.agg #[.int .i64 0, .int .u32 0, .int .i64 0, .int .i64 0, .slice none 0 0]) 56 rfl Tryd.underlying49 infoExit rfl (by decide) (by decide) v2 ((exits.map exitOf).take k) (exitOf q) [.int .i64 q.f0, .int .u32 q.f1, .int .i64 q.f2, .int .i64 q.f3, .slice Am q.f4.length cm] (fun _ => True) (fun k => wm.heap.size ≤ k) rfl rfl (k54_mkM _ _ _ _ HRm1.out) (fun k hk => ⟨trivial, fun e => by have := HLT2.out k e.symm; omega⟩) (fun _ _ => trivial) HR2'.out HS'.out.bel HS'.out.bel.size (by simp; omega) ?_; intro v3 w3 ho3 hb3 hg3 hat3; have HS3 := Lib.hid (HS'.out.grown hg3 (HS'.out.row HR2'.out (by decide) (by decide))); have HR13 := Lib.hid (Kd.R_over HR1'.out HR2'.out (by decide) hg3); obtain ⟨A3, c3, hv3⟩ := Kd.R_slice ho3; rw [HLEN.out] at hv3; subst hv3; have HR3 := Lib.hid ho3; have e5 := HS3.out.d2; have e6 := HS3.out.f1 2; clear ho3 hb3 hg3 hat3)
              all_goals
                go_wp2
                go_roundw
                case rel => exact ⟨k + 1, by omega, by go_num, _, Lib.hid (HS3.out.set2 _), Lib.hid (Kd.R_set HR13.out HS3.out.b1 (by decide) 2 _), Lib.hid (by rw [HT.out]; exact Kd.R_set HR3.out HS3.out.b1 (by decide) 2 _)⟩
                case measure => simp [intOf]; omega
        · have hke : exits.length = k := by omega
          have hR := HR2.out
          rw [← hke, show exits.length = (exits.map exitOf).length by simp, List.take_length] at hR
          have HR2' := Lib.hid hR
          clear hR
          go_wp2
          go_ret
          refine ⟨rfl, ?_, HS.out.bel⟩
          obtain ⟨P1, C1, rfl, -, hc1⟩ := Kd.R_reads HR1.out
          obtain ⟨P2, C2, rfl, -, hc2⟩ := Kd.R_reads HR2'.out
          exact ⟨⟨A0, c0, by rw [blk_cell HS.out.b1]; rfl, Kd.C_below HC0.out HS.out.bel⟩, ⟨P1, C1, HS.out.d1, hc1⟩, ⟨P2, C2, HS.out.d2, hc2⟩, by rw [blk_cell HS.out.b1]; rfl⟩
end Go.Proofs.YtlnbghhhifnbdaaDoor

/- Proved: the text of a word in hex, of the program's word.Hex and of the reference's; small facts on texts. Conditions: a word is a word. -/
namespace Go.Proofs.YtlnbghhhifnbdaaDoor
open Go.RowKit Go.Proofs.YtlnbghhhifnbdaaDoorW.PrintWords Go.Proofs.YtlnbghhhifnbdaaDoorW.PrintLast Go.Proofs.YtlnbghhhifnbdaaDoorW.PrintMore Go.Proofs.YtlnbghhhifnbdaaDoor.PIrTexts
set_option linter.unusedVariables false
set_option linter.unusedSimpArgs false

def hxd (d : Nat) : Nat := if d < 10 then 48 + d else 87 + d
def hxw (w : Int) (i : Nat) : Nat := hxd ((w / 16 ^ i % 16).toNat)
def hexS (w : Int) : ByteArray := strN ([7, 6, 5, 4, 3, 2, 1, 0].map (hxw w))
theorem hexS_size (w : Int) : (hexS w).size = 8 := by
  unfold hexS
  rw [strN_size]
  rfl
theorem t32w (n : Int) (h : 0 ≤ n) (h' : n < 2 ^ 32) : IntKind.u32.wrap n = n := IntWalk.u32_in n ⟨h, by omega⟩
theorem and15 (w : Int) (h : 0 ≤ w ∧ w ≤ 4294967295) : bits .and .u32 w 15 = w % 16 := bits_mask .u32 32 (by decide) t32w 4 (by decide) w h.1 (by omega)
theorem hx_bt : ∀ d : Nat, d < 16 → bt (⟨#[48, 49, 50, 51, 52, 53, 54, 55, 56, 57, 97, 98, 99, 100, 101, 102]⟩ : ByteArray) (d : Int) = ((hxd d : Nat) : Int) := by decide +kernel
theorem hx_div (w : Int) (h : 0 ≤ w ∧ w ≤ 4294967295) (i : Nat) (hi : i ≤ 7) : w / 2 ^ (4 * i) % 16 = (((w / 16 ^ i % 16).toNat : Nat) : Int) ∧ (w / 16 ^ i % 16).toNat < 16 := by
  rw [show (2 : Int) ^ (4 * i) = 16 ^ i by rw [Int.pow_mul]; rfl]
  generalize w / 16 ^ i = x
  omega
theorem hx_shr (w : Int) (h : 0 ≤ w ∧ w ≤ 4294967295) (i : Nat) (hi : i ≤ 7) : Go.bits .and .u32 (shr .u32 w (((4 * i : Nat) : Int))) 15 = (((w / 16 ^ i % 16).toNat : Nat) : Int) := by
  have hq : (2 : Int) ^ (4 * i) > 0 := Int.pow_pos (by decide)
  have hs : shr .u32 w (((4 * i : Nat) : Int)) = w / 2 ^ (4 * i) := by
    have q0 : 0 ≤ w / 2 ^ (4 * i) := Int.ediv_nonneg h.1 (Int.le_of_lt hq)
    have q1 : w / 2 ^ (4 * i) ≤ w := Int.ediv_le_self _ h.1
    have u : IntKind.u32.bits = 32 := rfl
    simp only [shr, u]
    rw [show min ((4 * i : Nat) : Int).toNat 32 = 4 * i by omega]
  have q0 : 0 ≤ w / 2 ^ (4 * i) := Int.ediv_nonneg h.1 (Int.le_of_lt hq)
  have q1 : w / 2 ^ (4 * i) ≤ w := Int.ediv_le_self _ h.1
  rw [hs, and15 _ ⟨q0, by omega⟩]
  exact (hx_div w h i hi).1
theorem hex_step (w : Int) (h : 0 ≤ w ∧ w ≤ 4294967295) (i : Nat) (hi : i < 8) (acc : List Int) (ha : acc.length ≤ 100) (k : Nat) : word_Hex.l0 (k + 1) w acc (i : Int) = word_Hex.l0 k w (acc ++ [((hxw w (7 - i) : Nat) : Int)]) ((i + 1 : Nat) : Int) := by
  have e : IntKind.u64.wrap (wrap64 (28 - (wrap64 (4 * (i : Int))))) = ((4 * (7 - i) : Nat) : Int) := by
    rw [show wrap64 (28 - (wrap64 (4 * (i : Int)))) = ((4 * (7 - i) : Nat) : Int) by unfold wrap64; omega]
    exact IntWalk.u64_in _ (by omega)
  have h2 := (hx_div w h (7 - i) (by omega)).2
  simp only [word_Hex.l0]
  rw [e, hx_shr w h (7 - i) (by omega), if_pos (by omega), if_pos (by omega), if_pos (by omega), if_pos (by omega), if_pos (by omega), hx_bt _ h2, show wrap64 ((i : Int) + 1) = ((i + 1 : Nat) : Int) by unfold wrap64; omega]
  rfl
theorem hex_f (w : Int) (h : 0 ≤ w ∧ w ≤ 4294967295) : word_Hex.f 9 w = some (hexS w) := by
  unfold word_Hex.f
  have s := fun i hi acc ha k => hex_step w h i hi acc ha k
  have e0 := s 0 (by omega) [] (by simp) 8
  have e1 := fun acc ha => s 1 (by omega) acc ha 7
  have e2 := fun acc ha => s 2 (by omega) acc ha 6
  have e3 := fun acc ha => s 3 (by omega) acc ha 5
  have e4 := fun acc ha => s 4 (by omega) acc ha 4
  have e5 := fun acc ha => s 5 (by omega) acc ha 3
  have e6 := fun acc ha => s 6 (by omega) acc ha 2
  have e7 := fun acc ha => s 7 (by omega) acc ha 1
  have c0 : ((0 : Nat) : Int) = 0 := rfl
  rw [c0] at e0
  rw [e0, e1 _ (by simp), e2 _ (by simp), e3 _ (by simp), e4 _ (by simp), e5 _ (by simp), e6 _ (by simp), e7 _ (by simp)]
  simp only [word_Hex.l0]
  rw [if_neg (by omega)]
  exact congrArg some (strOf_strN ([7, 6, 5, 4, 3, 2, 1, 0].map (hxw w)))
end Go.Proofs.YtlnbghhhifnbdaaDoor

/- Contracts of inst.Form, Name and of the reference's Form: what they answer. Conditions: the listed variables hold what the program's text lays in them. -/
namespace Go.Proofs.YtlnbghhhifnbdaaDoor
open Go.RowKit
set_option linter.unusedVariables false
set_option linter.unusedSimpArgs false

def hasB (op : Int) : Bool := decide (0 ≤ op) && decide (op < 58)
def hasE (op : Int) : Int := if hasB op = true then 0 else 9
theorem has_t {op : Int} (h : hasB op = true) : 0 ≤ op ∧ op < 58 := by simpa [hasB] using h
theorem has_c (op : Int) (w : World) : Calls Tryd.prog 68 #[.int .i64 op] w fun e w' => e = .returned (.bool (hasB op)) ∧ w = w' := by
  unfold hasB
  by_cases h : 0 ≤ op
  all_goals
    go_enter Tryd.func68, Tryd.ntmps68
    go_wp2
    go_ret
    exact ⟨by first | (simp [h]; done) | (simp; omega), rfl⟩
def nameV (op : Int) : ByteArray := if hasB op = true then nameAt op.toNat else ⟨#[]⟩
theorem name_c (op : Int) (w : World) (hf : NamesIs w) : Calls Tryd.prog 56 #[.int .i64 op] w fun e w' => e = .returned (.tuple #[.string (nameV op), .int .i64 (hasE op)]) ∧ w = w' := by
  unfold nameV hasE
  rcases Bool.eq_false_or_eq_true (hasB op) with h | h
  · obtain ⟨h0, h1⟩ := has_t h
    have hc := names_cell hf op.toNat (by omega)
    clear hf
    rw [if_pos h, if_pos h]
    go_enter Tryd.func56, Tryd.ntmps56
    go_wp2_with (go_at_call 68; refine (has_c op _).mono ?_; rintro e w' ⟨rfl, rfl⟩)
    go_ret2
    exact ⟨rfl, rfl⟩
  · clear hf
    rw [if_neg (by simp [h]), if_neg (by simp [h])]
    go_enter Tryd.func56, Tryd.ntmps56
    go_wp2_with (go_at_call 68; refine (has_c op _).mono ?_; rintro e w' ⟨rfl, rfl⟩)
    go_ret2
    exact ⟨rfl, rfl⟩
end Go.Proofs.YtlnbghhhifnbdaaDoor

/- Contracts of ir.number and ir.line. Conditions: numbers are of their kinds, the code is an operation's; the listed variable holds what the program's text lays in it. -/
namespace Go.Proofs.YtlnbghhhifnbdaaDoor
open Go.RowKit Go.Proofs.YtlnbghhhifnbdaaDoorW.PrintWords Go.Proofs.YtlnbghhhifnbdaaDoorW.PrintLast Go.Proofs.YtlnbghhhifnbdaaDoorW.PrintMore Go.Proofs.YtlnbghhhifnbdaaDoor.PIrTexts
set_option linter.unusedVariables false
set_option linter.unusedSimpArgs false

def I64 (n : Int) : Prop := -9223372036854775808 ≤ n ∧ n ≤ 9223372036854775807
def OpI (o : S41) : Prop := I64 o.f0 ∧ I64 o.f1 ∧ I64 o.f2 ∧ (0 ≤ o.f3 ∧ o.f3 ≤ 4294967295) ∧ I64 o.f4 ∧ I64 o.f5
theorem register_c (n : Int) (h : I64 n) (w : World) : Calls Tryd.prog 57 #[.int .i64 n] w fun e w' => e = .returned (.string (regS n)) ∧ Below w.heap.size w w' := disasm_Register.calls 400 n _ w (register_f n h)
theorem number_c (n : Int) (h : I64 n) (w : World) : Calls Tryd.prog 26 #[.int .i64 n] w fun e w' => e = .returned (.string (numS n)) ∧ Below w.heap.size w w' := disasm_Number.calls 400 n _ w (number_f n h)
theorem irnum_c (s : ByteArray) (hs : s.size ≤ 100) (n : Int) (h : I64 n) (w : World) : Calls Tryd.prog 28 #[.string s, .int .i64 n] w fun e w' => e = .returned (.string (s ++ numS n)) ∧ Below w.heap.size w w' :=
  ir_number.calls 400 s n _ w (by
    have a := numS_size n h
    unfold ir_number.f
    rw [number_f n h, Option.bind_some, if_pos (by omega)])
theorem whex_c (x : Int) (h : 0 ≤ x ∧ x ≤ 4294967295) (w : World) : Calls Tryd.prog 58 #[.int .u32 x] w fun e w' => e = .returned (.string (hexS x)) ∧ Below w.heap.size w w' := word_Hex.calls 9 x _ w (hex_f x h)
theorem name_size : ∀ i, i < 58 → (nameAt i).size ≤ 20 := by decide +kernel
theorem nameV_size (n : Int) : (nameV n).size ≤ 20 := by
  unfold nameV
  split
  · rename_i h
    have := has_t h
    exact name_size _ (by omega)
  · exact Nat.zero_le _
def sA (n : Int) : ByteArray := ⟨#[32]⟩ ++ numS n
def sX (n : Int) : ByteArray := ⟨#[32, 33]⟩ ++ numS n
def lineS (o : S41) : ByteArray :=
  if o.f0 = 1 then ⟨#[105, 110, 32]⟩ ++ regS o.f3
  else if o.f0 = 2 then ⟨#[99, 111, 110, 115, 116, 32]⟩ ++ numS o.f3
  else if o.f0 = 3 then (nameV o.f3 ++ sA o.f1) ++ sA o.f2
  else if o.f0 = 4 then (nameV o.f3 ++ sA o.f1) ++ sX o.f4
  else if o.f0 = 5 then (((nameV o.f3 ++ sA o.f1) ++ sA o.f2) ++ sX o.f4) ++ sX o.f5
  else ((nameV o.f3 ++ sA o.f1) ++ sA o.f2) ++ sX o.f4
theorem sA_size (n : Int) (h : I64 n) : (sA n).size ≤ 22 := by
  have := numS_size n h
  unfold sA
  rw [ByteArray.size_append, show (⟨#[32]⟩ : ByteArray).size = 1 from rfl]
  omega
theorem sX_size (n : Int) (h : I64 n) : (sX n).size ≤ 23 := by
  have := numS_size n h
  unfold sX
  rw [ByteArray.size_append, show (⟨#[32, 33]⟩ : ByteArray).size = 2 from rfl]
  omega
theorem lineS_size (o : S41) (h : OpI o) : (lineS o).size ≤ 200 := by
  obtain ⟨h0, h1, h2, h3, h4, h5⟩ := h
  have h3' : I64 o.f3 := ⟨by omega, by omega⟩
  have a := nameV_size o.f3
  have b := sA_size _ h1
  have c := sA_size _ h2
  have d := sX_size _ h4
  have e := sX_size _ h5
  have f := regS_size _ h3'
  have g := numS_size _ h3'
  have l1 : (⟨#[105, 110, 32]⟩ : ByteArray).size = 3 := rfl
  have l2 : (⟨#[99, 111, 110, 115, 116, 32]⟩ : ByteArray).size = 6 := rfl
  unfold lineS
  split
  · rw [ByteArray.size_append]; omega
  · split
    · rw [ByteArray.size_append]; omega
    · split
      · simp only [ByteArray.size_append]; omega
      · split
        · simp only [ByteArray.size_append]; omega
        · split
          · simp only [ByteArray.size_append]; omega
          · simp only [ByteArray.size_append]; omega
theorem ret_s {a b : ByteArray} (h : a = b) : Ending.returned (.string a) = .returned (.string b) := by rw [h]
set_option maxHeartbeats 8000000 in
theorem line_c (o : S41) (hc : 1 ≤ o.f0 ∧ o.f0 ≤ 6) (ho : OpI o) (w : World) (hN : NamesIs w) :
    Calls Tryd.prog 27 #[.agg #[.int .i64 o.f0, .int .i64 o.f1, .int .i64 o.f2, .int .u32 o.f3, .int .i64 o.f4, .int .i64 o.f5]] w fun e w' => e = .returned (.string (lineS o)) ∧ Below w.heap.size w w' := by
  obtain ⟨V, hV⟩ : ∃ V, V = lineS o := ⟨_, rfl⟩
  rw [← hV]
  obtain ⟨f0, f1, f2, f3, f4, f5⟩ := o
  obtain ⟨h0, h1, h2, h3, h4, h5⟩ := ho
  simp only at hc h0 h1 h2 h3 h4 h5
  have h3' : I64 f3 := ⟨by omega, by omega⟩
  have a := nameV_size f3
  have b := sA_size _ h1
  have c := sA_size _ h2
  have d := sX_size _ h4
  have e := sX_size _ h5
  have f := regS_size _ h3'
  have g := numS_size _ h3'
  have e3 : wrap64 f3 = f3 := by unfold wrap64; omega
  have HNm := Lib.hid (fun v (hb : Below w.heap.size w v) => name_c f3 v (hN.below hb))
  have HA := Lib.hid (fun v => irnum_c ⟨#[32]⟩ (by decide) f1 h1 v)
  have HB' := Lib.hid (fun v => irnum_c ⟨#[32]⟩ (by decide) f2 h2 v)
  have HX := Lib.hid (fun v => irnum_c ⟨#[32, 33]⟩ (by decide) f4 h4 v)
  have HY := Lib.hid (fun v => irnum_c ⟨#[32, 33]⟩ (by decide) f5 h5 v)
  have HR := Lib.hid (fun v => register_c f3 h3' v)
  have HU := Lib.hid (fun v => number_c f3 h3' v)
  have hV2 : V = (if f0 = 1 then ⟨#[105, 110, 32]⟩ ++ regS f3 else if f0 = 2 then ⟨#[99, 111, 110, 115, 116, 32]⟩ ++ numS f3 else if f0 = 3 then (nameV f3 ++ sA f1) ++ sA f2 else if f0 = 4 then (nameV f3 ++ sA f1) ++ sX f4 else if f0 = 5 then (((nameV f3 ++ sA f1) ++ sA f2) ++ sX f4) ++ sX f5 else ((nameV f3 ++ sA f1) ++ sA f2) ++ sX f4) := hV
  clear hN hV h0 h1 h2 h3 h4 h5 h3'
  have ea1 : (⟨#[32]⟩ : ByteArray) ++ numS f1 = sA f1 := rfl
  have ea2 : (⟨#[32]⟩ : ByteArray) ++ numS f2 = sA f2 := rfl
  have ex4 : (⟨#[32, 33]⟩ : ByteArray) ++ numS f4 = sX f4 := rfl
  have ex5 : (⟨#[32, 33]⟩ : ByteArray) ++ numS f5 = sX f5 := rfl
  rw [ea1] at HA
  rw [ea2] at HB'
  rw [ex4] at HX
  rw [ex5] at HY
  clear ea1 ea2 ex4 ex5
  generalize nameV f3 = nm at *
  generalize hasE f3 = ne at *
  generalize sA f1 = A at *
  generalize sA f2 = B at *
  generalize sX f4 = X at *
  generalize sX f5 = Y at *
  generalize regS f3 = R at *
  generalize numS f3 = U at *
  have HVV := Lib.hid hV2
  clear hV2
  go_enter Tryd.func27, Tryd.ntmps27
  go_wp2_with fail
  refine (HNm.out _ (bal (Below.refl _ _) _)).mono ?_
  rintro e w1 ⟨rfl, rfl⟩
  go_wp2
  refine wp_region_below (by kernel_rfl) (by kernel_rfl) ?_
  intro S _ F hF hS
  have e0 := fcell hF (b := w.heap.size) (o := 1) (v := .int .i64 f1) (by simp [go_sem])
  have e1 := fcell hF (b := w.heap.size) (o := 2) (v := .int .i64 f2) (by simp [go_sem])
  repeat (go_big_quiet_step (first | (go_at_call 28; first | exact qbelow hS (HA.out _) | exact qbelow hS (HB'.out _)) | fail))
  refine wpQuiet_nil ?_
  intro w2 hw2
  obtain ⟨s2, rfl⟩ := hw2
  have HW2 := Lib.hid (bthen (bal (Below.refl w.heap.size w) _) (hF s2))
  have p0 := cellk (hF s2) (a := ⟨w.heap.size, 0, none⟩) (v := .int .i64 f0) (by simp [go_sem])
  have p3 := cellk (hF s2) (a := ⟨w.heap.size, 3, none⟩) (v := .int .u32 f3) (by simp [go_sem])
  have p4 := cellk (hF s2) (a := ⟨w.heap.size, 4, none⟩) (v := .int .i64 f4) (by simp [go_sem])
  have p5 := cellk (hF s2) (a := ⟨w.heap.size, 5, none⟩) (v := .int .i64 f5) (by simp [go_sem])
  clear e0 e1 hF hS HA HB' HNm
  generalize F s2 = w2 at *
  go_wp2
  refine wp_region_below (by kernel_rfl) (by kernel_rfl) ?_
  intro S _ F hF hS
  have e0 := fcell hF (b := w.heap.size) (o := 4) (v := .int .i64 f4) p4
  have e1 := fcell hF (b := w.heap.size) (o := 5) (v := .int .i64 f5) p5
  repeat (go_big_quiet_step (first | (go_at_call 28; first | exact qbelow hS (HX.out _) | exact qbelow hS (HY.out _)) | fail))
  refine wpQuiet_nil ?_
  intro w3 hw2
  obtain ⟨s2, rfl⟩ := hw2
  have HW3 := Lib.hid (bthen HW2.out (hF s2))
  have q0 := cellk (hF s2) p0
  have q3 := cellk (hF s2) p3
  clear e0 e1 hF hS HX HY p0 p3 p4 p5 HW2
  generalize F s2 = w3 at *
  have m1 : 3 + R.size ≤ 9223372036854775807 := by omega
  have m2 : 6 + U.size ≤ 9223372036854775807 := by omega
  have m3 : nm.size + A.size ≤ 9223372036854775807 := by omega
  have m4 : nm.size + A.size + B.size ≤ 9223372036854775807 := by omega
  have m5 : nm.size + A.size + X.size ≤ 9223372036854775807 := by omega
  have m6 : nm.size + A.size + B.size + X.size ≤ 9223372036854775807 := by omega
  have m7 : nm.size + A.size + B.size + X.size + Y.size ≤ 9223372036854775807 := by omega
  have n4 : (nm ++ A).size + B.size ≤ 9223372036854775807 := by rw [ByteArray.size_append]; omega
  have n5 : (nm ++ A).size + X.size ≤ 9223372036854775807 := by rw [ByteArray.size_append]; omega
  have n6 : (nm ++ A ++ B).size + X.size ≤ 9223372036854775807 := by rw [ByteArray.size_append, ByteArray.size_append]; omega
  have n7 : (nm ++ A ++ B ++ X).size + Y.size ≤ 9223372036854775807 := by rw [ByteArray.size_append, ByteArray.size_append, ByteArray.size_append]; omega
  clear a b c d e f g
  have hV2 := HVV.out
  clear HVV
  rcases (by omega : f0 = 1 ∨ f0 = 2 ∨ f0 = 3 ∨ f0 = 4 ∨ f0 = 5 ∨ f0 = 6) with rfl | rfl | rfl | rfl | rfl | rfl
  · have HVV := Lib.hid (show V = ⟨#[105, 110, 32]⟩ ++ R from hV2)
    clear hV2
    go_wp2_with fail
    refine (HR.out _).mono ?_
    rintro e w4 ⟨rfl, hb4⟩
    have HW4 := Lib.hid (bthen HW3.out hb4)
    clear hb4
    go_wp2
    go_ret
    exact ⟨ret_s HVV.out.symm, HW4.out⟩
  · have HVV := Lib.hid (show V = ⟨#[99, 111, 110, 115, 116, 32]⟩ ++ U from hV2)
    clear hV2
    go_wp2_with fail
    refine (HU.out _).mono ?_
    rintro e w4 ⟨rfl, hb4⟩
    have HW4 := Lib.hid (bthen HW3.out hb4)
    clear hb4
    go_wp2
    go_ret
    exact ⟨ret_s HVV.out.symm, HW4.out⟩
  · have HVV := Lib.hid (show V = (nm ++ A) ++ B from hV2)
    clear hV2
    go_wp2
    go_ret
    exact ⟨ret_s HVV.out.symm, HW3.out⟩
  · have HVV := Lib.hid (show V = (nm ++ A) ++ X from hV2)
    clear hV2
    go_wp2
    go_ret
    exact ⟨ret_s HVV.out.symm, HW3.out⟩
  · have HVV := Lib.hid (show V = (((nm ++ A) ++ B) ++ X) ++ Y from hV2)
    clear hV2
    go_wp2
    go_ret
    exact ⟨ret_s HVV.out.symm, HW3.out⟩
  · have HVV := Lib.hid (show V = ((nm ++ A) ++ B) ++ X from hV2)
    clear hV2
    go_wp2
    go_ret
    exact ⟨ret_s HVV.out.symm, HW3.out⟩
end Go.Proofs.YtlnbghhhifnbdaaDoor

/- Contract of ir.left. Conditions: numbers are of their kinds, the reason is one, the map reads as the given one and has at most a million entries. -/
namespace Go.Proofs.YtlnbghhhifnbdaaDoor
open Go.RowKit Go.Proofs.YtlnbghhhifnbdaaDoorW.PrintWords Go.Proofs.YtlnbghhhifnbdaaDoorW.PrintLast Go.Proofs.YtlnbghhhifnbdaaDoorW.PrintMore Go.Proofs.YtlnbghhhifnbdaaDoor.PIrTexts
set_option linter.unusedVariables false
set_option linter.unusedSimpArgs false

def ExI (e : S54) : Prop := I64 e.f0 ∧ (0 ≤ e.f1 ∧ e.f1 ≤ 4294967295) ∧ I64 e.f2 ∧ I64 e.f3 ∧ ∀ v ∈ e.f4, I64 v.f0 ∧ I64 v.f1
def valS (v : S56) : ByteArray := (⟨#[32]⟩ ++ regS v.f0) ++ (⟨#[61]⟩ ++ numS v.f1)
def mapS (s : ByteArray) (l : List S56) : ByteArray := l.foldl (fun s v => s ++ valS v) s
def whyS (n : Int) : ByteArray := if n = 1 then ⟨#[115, 108, 111, 119]⟩ else if n = 2 then ⟨#[104, 105, 116]⟩ else if n = 3 then ⟨#[115, 105, 100, 101]⟩ else ⟨#[101, 110, 100]⟩
def leftS0 (e : S54) : ByteArray :=
  (if e.f2 = -1 then (⟨#[32, 100, 111, 110, 101, 32]⟩ ++ numS e.f0) ++ (⟨#[32, 97, 116, 32]⟩ ++ hexS e.f1) else (⟨#[32, 100, 111, 110, 101, 32]⟩ ++ numS e.f0) ++ (⟨#[32, 116, 111, 32]⟩ ++ numS e.f2)) ++ (⟨#[32]⟩ ++ whyS e.f3)
def leftS (e : S54) : ByteArray := mapS (leftS0 e) e.f4
theorem valS_size (v : S56) (h : I64 v.f0 ∧ I64 v.f1) : (valS v).size ≤ 50 := by
  have a := regS_size _ h.1
  have b := numS_size _ h.2
  have l1 : (⟨#[32]⟩ : ByteArray).size = 1 := rfl
  have l2 : (⟨#[61]⟩ : ByteArray).size = 1 := rfl
  unfold valS
  simp only [ByteArray.size_append]
  omega
theorem mapS_size : ∀ (l : List S56) (s : ByteArray), (∀ v ∈ l, I64 v.f0 ∧ I64 v.f1) → (mapS s l).size ≤ s.size + 50 * l.length := by
  intro l
  induction l with
  | nil => intro s _; exact Nat.le_refl _
  | cons v l ih =>
    intro s h
    have a := valS_size v (h v (by simp))
    have b := ih (s ++ valS v) (fun x hx => h x (by simp [hx]))
    rw [ByteArray.size_append] at b
    have c : mapS s (v :: l) = mapS (s ++ valS v) l := rfl
    rw [c, List.length_cons]
    omega
theorem mapS_take (s : ByteArray) (l : List S56) (k : Nat) (h : k < l.length) : mapS s (l.take (k + 1)) = mapS s (l.take k) ++ valS (rd_T56 l (k : Int)) := by
  have hq : rd_T56 l (k : Int) = l[k] := by simp [rd_T56, h]
  rw [hq, List.take_succ_eq_append_getElem h]
  unfold mapS
  rw [List.foldl_append]
  rfl
theorem whyS_size (n : Int) : (whyS n).size ≤ 4 := by
  unfold whyS
  split
  · exact Nat.le_refl _
  · split
    · decide
    · split <;> decide
theorem leftS0_size (e : S54) (h : ExI e) : (leftS0 e).size ≤ 100 := by
  obtain ⟨h0, h1, h2, h3, h4⟩ := h
  have a := numS_size _ h0
  have b := numS_size _ h2
  have c := hexS_size e.f1
  have d := whyS_size e.f3
  have l1 : (⟨#[32, 100, 111, 110, 101, 32]⟩ : ByteArray).size = 6 := rfl
  have l2 : (⟨#[32, 97, 116, 32]⟩ : ByteArray).size = 4 := rfl
  have l3 : (⟨#[32, 116, 111, 32]⟩ : ByteArray).size = 4 := rfl
  have l4 : (⟨#[32]⟩ : ByteArray).size = 1 := rfl
  unfold leftS0
  split
  · simp only [ByteArray.size_append]; omega
  · simp only [ByteArray.size_append]; omega
theorem idx_why (n : Int) (h : 1 ≤ n ∧ n ≤ 4) (w : World) : Sem.run Tryd.prog (Instr.index 91 (.agg #[.string ⟨#[115, 108, 111, 119]⟩, .string ⟨#[104, 105, 116]⟩, .string ⟨#[115, 105, 100, 101]⟩, .string ⟨#[101, 110, 100]⟩]) (.int .i64 (n - 1))) w = .ok (.string (whyS n)) w := by
  have hu : Tryd.prog.underlying 91 = some (.array 4 9) := Tryd.underlying91
  rcases (by omega : n = 1 ∨ n = 2 ∨ n = 3 ∨ n = 4) with rfl | rfl | rfl | rfl
  all_goals
    simp [Instr.index, run_underlying hu, asIntOf, go_sem]
    rfl
set_option maxHeartbeats 8000000 in
set_option maxRecDepth 100000 in
theorem left_c (e : S54) (hw : 1 ≤ e.f3 ∧ e.f3 ≤ 4) (he : ExI e) (A4 : Option Addr) (c4 : Nat) (hl : e.f4.length ≤ 1000000) (w : World) (hC : k56.C w A4 e.f4.length e.f4) :
    Calls Tryd.prog 29 #[.agg #[.int .i64 e.f0, .int .u32 e.f1, .int .i64 e.f2, .int .i64 e.f3, .slice A4 e.f4.length c4]] w fun r w' => r = .returned (.string (leftS e)) ∧ Below w.heap.size w w' := by
  obtain ⟨V, hV⟩ : ∃ V, V = leftS e := ⟨_, rfl⟩
  rw [← hV]
  obtain ⟨f0, f1, f2, f3, f4⟩ := e
  have a0 := leftS0_size _ he
  obtain ⟨h0, h1, h2, h3, h4⟩ := he
  simp only at hw h0 h1 h2 h3 h4 hl hC
  have a := numS_size _ h0
  have b := numS_size _ h2
  have c := hexS_size f1
  have d := whyS_size f3
  have HD := Lib.hid (fun v => irnum_c ⟨#[32, 100, 111, 110, 101, 32]⟩ (by decide) f0 h0 v)
  have HT := Lib.hid (fun v => irnum_c ⟨#[32, 116, 111, 32]⟩ (by decide) f2 h2 v)
  have HH := Lib.hid (fun v => whex_c f1 h1 v)
  have HC := Lib.hid hC
  have H4 := Lib.hid h4
  have hV2 : V = mapS (leftS0 ⟨f0, f1, f2, f3, f4⟩) f4 := hV
  have hL : leftS0 ⟨f0, f1, f2, f3, f4⟩ = (if f2 = -1 then (⟨#[32, 100, 111, 110, 101, 32]⟩ ++ numS f0) ++ (⟨#[32, 97, 116, 32]⟩ ++ hexS f1) else (⟨#[32, 100, 111, 110, 101, 32]⟩ ++ numS f0) ++ (⟨#[32, 116, 111, 32]⟩ ++ numS f2)) ++ (⟨#[32]⟩ ++ whyS f3) := rfl
  generalize leftS0 ⟨f0, f1, f2, f3, f4⟩ = L0 at *
  have HVV := Lib.hid hV2
  clear hC h0 h1 h2 h3 h4 hV hV2
  have l1 : (⟨#[32, 100, 111, 110, 101, 32]⟩ : ByteArray).size = 6 := rfl
  have l2 : (⟨#[32, 97, 116, 32]⟩ : ByteArray).size = 4 := rfl
  have l3 : (⟨#[32, 116, 111, 32]⟩ : ByteArray).size = 4 := rfl
  have s0 : (⟨#[32, 100, 111, 110, 101, 32]⟩ ++ numS f0 : ByteArray).size ≤ 30 := by rw [ByteArray.size_append]; omega
  have s1 : (⟨#[32, 116, 111, 32]⟩ ++ numS f2 : ByteArray).size ≤ 30 := by rw [ByteArray.size_append]; omega
  generalize (⟨#[32, 100, 111, 110, 101, 32]⟩ ++ numS f0 : ByteArray) = D at *
  generalize (⟨#[32, 116, 111, 32]⟩ ++ numS f2 : ByteArray) = T at *
  generalize hexS f1 = X at *
  have hI := fun v => idx_why f3 hw v
  generalize whyS f3 = Y at *
  have m1 : 4 + X.size ≤ 9223372036854775807 := by omega
  have m2 : D.size + (4 + X.size) ≤ 9223372036854775807 := by omega
  have m3 : D.size + T.size ≤ 9223372036854775807 := by omega
  have m4 : 1 + Y.size ≤ 9223372036854775807 := by omega
  have m5 : D.size + (4 + X.size) + (1 + Y.size) ≤ 9223372036854775807 := by omega
  have m6 : D.size + T.size + (1 + Y.size) ≤ 9223372036854775807 := by omega
  have n2 : D.size + (⟨#[32, 97, 116, 32]⟩ ++ X : ByteArray).size ≤ 9223372036854775807 := by rw [ByteArray.size_append]; omega
  rcases (by omega : f3 = 1 ∨ f3 = 2 ∨ f3 = 3 ∨ f3 = 4) with h3v | h3v | h3v | h3v
  all_goals
    simp only [h3v, Int.reduceSub] at hI
    by_cases h2 : f2 = -1
    · subst h2
      rw [if_pos rfl] at hL
      have HLL := Lib.hid hL
      clear hL
      go_enter Tryd.func29, Tryd.ntmps29
      go_wp2_with fail
      refine (HD.out _).mono ?_
      rintro e w1 ⟨rfl, hb1⟩
      have x1 := cellk hb1 (a := ⟨w.heap.size, 1, none⟩) (v := .int .u32 f1) (by simp [go_sem])
      have x2 := cellk hb1 (a := ⟨w.heap.size, 2, none⟩) (v := .int .i64 (-1)) (by simp [go_sem])
      have x3 := cellk hb1 (a := ⟨w.heap.size, 3, none⟩) (v := .int .i64 f3) (by simp [go_sem, h3v])
      have x4 := cellk hb1 (a := ⟨w.heap.size, 4, none⟩) (v := .slice A4 f4.length c4) (by simp [go_sem])
      have HW1 := Lib.hid (bthen (bal (Below.refl w.heap.size w) _) hb1)
      clear hb1
      go_wp2_with fail
      refine (HH.out _).mono ?_
      rintro e w2 ⟨rfl, hb2⟩
      have y3 := cellk hb2 x3
      have y4 := cellk hb2 x4
      have HW2 := Lib.hid (bthen HW1.out hb2)
      clear hb2 x1 x2 x3 x4 HW1
      go_wp2
      go_loopw [3, 34] (fun t i wr => ∃ k : Nat, k ≤ f4.length ∧ i = .int .i64 k ∧ ∃ s : ByteArray, t = .string s ∧ Hid (s = mapS L0 (f4.take k)) ∧ s.size ≤ 100 + 50 * k ∧ Hid (Below w.heap.size w wr)) (fun _ i _ => f4.length - (intOf i).toNat)
      case atStart => exact ⟨0, Nat.zero_le _, rfl, _, rfl, Lib.hid HLL.out.symm, by rw [← HLL.out]; omega, HW2⟩
      case round =>
        obtain ⟨k, hk, rfl, s, rfl, HS, hs, HB⟩ := hrel
        by_cases hlt : k < f4.length
        · obtain ⟨ad, rfl, d0, d1⟩ := at_T56 (Kd.C_below HC.out HB.out) (k : Int) (by omega) (by omega)
          have hq : rd_T56 f4 (k : Int) = f4[k] := by simp [rd_T56, hlt]
          have h4 := H4.out (rd_T56 f4 (k : Int)) (by rw [hq]; exact List.getElem_mem hlt)
          have hT := mapS_take L0 f4 k hlt
          have hz := valS_size _ h4
          simp only [Int.toNat_natCast] at d0 d1
          clear hq
          generalize rd_T56 f4 (k : Int) = q at *
          rw [← HS.out] at hT
          have HRg := Lib.hid (fun v => register_c q.f0 h4.1 v)
          have HEq := Lib.hid (fun v => irnum_c ⟨#[61]⟩ (by decide) q.f1 h4.2 v)
          have r1 := regS_size _ h4.1
          have r2 : (⟨#[61]⟩ ++ numS q.f1 : ByteArray).size ≤ 30 := by
            have := numS_size _ h4.2
            rw [ByteArray.size_append, show (⟨#[61]⟩ : ByteArray).size = 1 from rfl]
            omega
          have hv : valS q = (⟨#[32]⟩ ++ regS q.f0) ++ (⟨#[61]⟩ ++ numS q.f1) := rfl
          rw [hv] at hT hz
          generalize (⟨#[61]⟩ ++ numS q.f1 : ByteArray) = E at *
          generalize regS q.f0 = R at *
          have HT' := Lib.hid hT
          clear hT hv h4 HS
          have z1 : 1 + R.size ≤ 9223372036854775807 := by omega
          have z2 : 1 + R.size + E.size ≤ 9223372036854775807 := by omega
          have z3 : (⟨#[32]⟩ ++ R : ByteArray).size + E.size ≤ 9223372036854775807 := by rw [ByteArray.size_append, show (⟨#[32]⟩ : ByteArray).size = 1 from rfl]; omega
          have z4 : s.size + (1 + R.size + E.size) ≤ 9223372036854775807 := by omega
          have z5 : s.size + (⟨#[32]⟩ ++ R ++ E : ByteArray).size ≤ 9223372036854775807 := by omega
          have z6 : (s ++ ((⟨#[32]⟩ ++ R) ++ E) : ByteArray).size ≤ 100 + 50 * (k + 1) := by rw [ByteArray.size_append]; omega
          clear hz r1 r2
          go_wp2
          refine wp_region_below (by kernel_rfl) (by kernel_rfl) ?_
          intro S _ F hF hS
          have e0 := fcell hF (b := wr.heap.size) (o := 0) (v := .int .i64 q.f0) (by simp [go_sem])
          have e1 := fcell hF (b := wr.heap.size) (o := 1) (v := .int .i64 q.f1) (by simp [go_sem])
          repeat (go_big_quiet_step (first | (go_at_call 28; exact qbelow hS (HEq.out _)) | (go_at_call 57; exact qbelow hS (HRg.out _)) | fail))
          refine wpQuiet_nil ?_
          intro w3 hw3
          obtain ⟨s2, rfl⟩ := hw3
          have HW3 := Lib.hid (bthen (bal HB.out _) (hF s2))
          clear e0 e1 hF hS HRg HEq
          generalize F s2 = w3 at *
          go_wp2
          go_roundw
          case rel => exact ⟨k + 1, by omega, by go_num, _, rfl, Lib.hid HT'.out.symm, z6, HW3⟩
          case measure => simp [intOf]; omega
        · have hke : f4.length = k := by omega
          have hS := HS.out
          rw [← hke, List.take_length] at hS
          have HVS := Lib.hid (HVV.out.trans hS.symm)
          clear hS HS hke
          go_wp2
          go_ret
          exact ⟨ret_s HVS.out.symm, HB.out⟩
    · rw [if_neg h2] at hL
      have HLL := Lib.hid hL
      clear hL
      go_enter Tryd.func29, Tryd.ntmps29
      go_wp2_with fail
      refine (HD.out _).mono ?_
      rintro e w1 ⟨rfl, hb1⟩
      have x1 := cellk hb1 (a := ⟨w.heap.size, 1, none⟩) (v := .int .u32 f1) (by simp [go_sem])
      have x2 := cellk hb1 (a := ⟨w.heap.size, 2, none⟩) (v := .int .i64 (f2)) (by simp [go_sem])
      have x3 := cellk hb1 (a := ⟨w.heap.size, 3, none⟩) (v := .int .i64 f3) (by simp [go_sem, h3v])
      have x4 := cellk hb1 (a := ⟨w.heap.size, 4, none⟩) (v := .slice A4 f4.length c4) (by simp [go_sem])
      have HW1 := Lib.hid (bthen (bal (Below.refl w.heap.size w) _) hb1)
      clear hb1
      go_wp2_with fail
      refine (HT.out _).mono ?_
      rintro e w2 ⟨rfl, hb2⟩
      have y3 := cellk hb2 x3
      have y4 := cellk hb2 x4
      have HW2 := Lib.hid (bthen HW1.out hb2)
      clear hb2 x1 x2 x3 x4 HW1
      go_wp2
      go_loopw [3, 34] (fun t i wr => ∃ k : Nat, k ≤ f4.length ∧ i = .int .i64 k ∧ ∃ s : ByteArray, t = .string s ∧ Hid (s = mapS L0 (f4.take k)) ∧ s.size ≤ 100 + 50 * k ∧ Hid (Below w.heap.size w wr)) (fun _ i _ => f4.length - (intOf i).toNat)
      case atStart => exact ⟨0, Nat.zero_le _, rfl, _, rfl, Lib.hid HLL.out.symm, by rw [← HLL.out]; omega, HW2⟩
      case round =>
        obtain ⟨k, hk, rfl, s, rfl, HS, hs, HB⟩ := hrel
        by_cases hlt : k < f4.length
        · obtain ⟨ad, rfl, d0, d1⟩ := at_T56 (Kd.C_below HC.out HB.out) (k : Int) (by omega) (by omega)
          have hq : rd_T56 f4 (k : Int) = f4[k] := by simp [rd_T56, hlt]
          have h4 := H4.out (rd_T56 f4 (k : Int)) (by rw [hq]; exact List.getElem_mem hlt)
          have hT := mapS_take L0 f4 k hlt
          have hz := valS_size _ h4
          simp only [Int.toNat_natCast] at d0 d1
          clear hq
          generalize rd_T56 f4 (k : Int) = q at *
          rw [← HS.out] at hT
          have HRg := Lib.hid (fun v => register_c q.f0 h4.1 v)
          have HEq := Lib.hid (fun v => irnum_c ⟨#[61]⟩ (by decide) q.f1 h4.2 v)
          have r1 := regS_size _ h4.1
          have r2 : (⟨#[61]⟩ ++ numS q.f1 : ByteArray).size ≤ 30 := by
            have := numS_size _ h4.2
            rw [ByteArray.size_append, show (⟨#[61]⟩ : ByteArray).size = 1 from rfl]
            omega
          have hv : valS q = (⟨#[32]⟩ ++ regS q.f0) ++ (⟨#[61]⟩ ++ numS q.f1) := rfl
          rw [hv] at hT hz
          generalize (⟨#[61]⟩ ++ numS q.f1 : ByteArray) = E at *
          generalize regS q.f0 = R at *
          have HT' := Lib.hid hT
          clear hT hv h4 HS
          have z1 : 1 + R.size ≤ 9223372036854775807 := by omega
          have z2 : 1 + R.size + E.size ≤ 9223372036854775807 := by omega
          have z3 : (⟨#[32]⟩ ++ R : ByteArray).size + E.size ≤ 9223372036854775807 := by rw [ByteArray.size_append, show (⟨#[32]⟩ : ByteArray).size = 1 from rfl]; omega
          have z4 : s.size + (1 + R.size + E.size) ≤ 9223372036854775807 := by omega
          have z5 : s.size + (⟨#[32]⟩ ++ R ++ E : ByteArray).size ≤ 9223372036854775807 := by omega
          have z6 : (s ++ ((⟨#[32]⟩ ++ R) ++ E) : ByteArray).size ≤ 100 + 50 * (k + 1) := by rw [ByteArray.size_append]; omega
          clear hz r1 r2
          go_wp2
          refine wp_region_below (by kernel_rfl) (by kernel_rfl) ?_
          intro S _ F hF hS
          have e0 := fcell hF (b := wr.heap.size) (o := 0) (v := .int .i64 q.f0) (by simp [go_sem])
          have e1 := fcell hF (b := wr.heap.size) (o := 1) (v := .int .i64 q.f1) (by simp [go_sem])
          repeat (go_big_quiet_step (first | (go_at_call 28; exact qbelow hS (HEq.out _)) | (go_at_call 57; exact qbelow hS (HRg.out _)) | fail))
          refine wpQuiet_nil ?_
          intro w3 hw3
          obtain ⟨s2, rfl⟩ := hw3
          have HW3 := Lib.hid (bthen (bal HB.out _) (hF s2))
          clear e0 e1 hF hS HRg HEq
          generalize F s2 = w3 at *
          go_wp2
          go_roundw
          case rel => exact ⟨k + 1, by omega, by go_num, _, rfl, Lib.hid HT'.out.symm, z6, HW3⟩
          case measure => simp [intOf]; omega
        · have hke : f4.length = k := by omega
          have hS := HS.out
          rw [← hke, List.take_length] at hS
          have HVS := Lib.hid (HVV.out.trans hS.symm)
          clear hS HS hke
          go_wp2
          go_ret
          exact ⟨ret_s HVS.out.symm, HB.out⟩
end Go.Proofs.YtlnbghhhifnbdaaDoor

/- Contract of ir.Text. Conditions: the block reads as the given one, its numbers are of their kinds, its lists have at most a million entries; the listed variable holds what the program's text lays in it. -/
namespace Go.Proofs.YtlnbghhhifnbdaaDoor
open Go.RowKit Go.Proofs.YtlnbghhhifnbdaaDoorW.PrintWords Go.Proofs.YtlnbghhhifnbdaaDoorW.PrintLast Go.Proofs.YtlnbghhhifnbdaaDoorW.PrintMore Go.Proofs.YtlnbghhhifnbdaaDoor.PIrTexts
set_option linter.unusedVariables false
set_option linter.unusedSimpArgs false

/-- The numbers of a block are of their kinds. -/
structure BlkI (B : BlkV) : Prop where
  ops : ∀ o ∈ B.ops, OpI o
  exits : ∀ e ∈ B.exits, ExI e
  last : I64 B.last
def opP (i : Nat) (o : S41) : ByteArray := ((numS (i : Int) ++ ⟨#[32]⟩) ++ lineS o) ++ ⟨#[10]⟩
def exP (i : Nat) (e : S54) : ByteArray := ((⟨#[33]⟩ ++ numS (i : Int)) ++ leftS e) ++ ⟨#[10]⟩
def foldS (f : Nat → ByteArray) (s : ByteArray) (k : Nat) : ByteArray := (List.range k).foldl (fun s i => s ++ f i) s
theorem foldS_succ (f : Nat → ByteArray) (s : ByteArray) (k : Nat) : foldS f s (k + 1) = foldS f s k ++ f k := by
  unfold foldS
  rw [List.range_succ, List.foldl_append]
  rfl
def opF (B : BlkV) (i : Nat) : ByteArray := opP i (rd_T41 B.ops (i : Int))
def exF (B : BlkV) (i : Nat) : ByteArray := exP i (rd_T54 B.exits (i : Int))
def textS (B : BlkV) : ByteArray := (foldS (exF B) (foldS (opF B) ⟨#[]⟩ B.ops.length) B.exits.length ++ (⟨#[108, 97, 115, 116, 32]⟩ ++ numS B.last)) ++ ⟨#[10]⟩
theorem opB_code (B : BlkV) (k : Int) (h : opB B k = true) : 1 ≤ (rd_T41 B.ops k).f0 ∧ (rd_T41 B.ops k).f0 ≤ 6 := by
  unfold opB at h
  simp only [Bool.and_eq_true] at h
  have hk := h.1
  generalize rd_T41 B.ops k = o at *
  unfold kindB at hk
  by_cases h1 : o.f0 = 1
  · omega
  by_cases h2 : o.f0 = 2
  · omega
  by_cases h3 : o.f0 = 3
  · omega
  by_cases h4 : o.f0 = 4
  · omega
  by_cases h5 : o.f0 = 5
  · omega
  by_cases h6 : o.f0 = 6
  · omega
  simp [h1, h2, h3, h4, h5, h6] at hk
theorem leavesB_why (B : BlkV) (n : Int) (h : leavesB B n = true) : 1 ≤ (rd_T54 B.exits n).f3 ∧ (rd_T54 B.exits n).f3 ≤ 4 := by
  unfold leavesB at h
  simp only [Bool.and_eq_true, Bool.not_eq_true', decide_eq_false_iff_not] at h
  omega
theorem check_ok (B : BlkV) (h : checkB B = 0) : B.pcs.length ≤ 32 ∧ B.ops.length ≤ 512 ∧ B.exits.length ≤ 128 ∧ rightB B = true := by
  unfold checkB at h
  by_cases h1 : 32 < B.pcs.length ∨ 512 < B.ops.length ∨ 128 < B.exits.length
  · rw [if_pos h1] at h; omega
  · rw [if_neg h1] at h
    by_cases h2 : rightB B = true
    · exact ⟨by omega, by omega, by omega, h2⟩
    · rw [if_neg h2] at h; omega
theorem right_ops (B : BlkV) (h : rightB B = true) (k : Nat) (hk : k < B.ops.length) : opB B (k : Int) = true := by
  unfold rightB at h
  simp only [Bool.and_eq_true] at h
  exact List.all_eq_true.1 h.1 k (List.mem_range.2 hk)
theorem right_exits (B : BlkV) (h : rightB B = true) (k : Nat) (hk : k < B.exits.length) : leavesB B (k : Int) = true := by
  unfold rightB at h
  simp only [Bool.and_eq_true] at h
  exact List.all_eq_true.1 h.2.1 k (List.mem_range.2 hk)
theorem nat_i64 (k : Nat) (h : k ≤ 1000000) : I64 (k : Int) := ⟨by omega, by omega⟩
theorem opF_size (B : BlkV) (hI : BlkI B) (k : Nat) (hk : k < B.ops.length) (hl : k ≤ 1000000) : (opF B k).size ≤ 300 := by
  have hq : rd_T41 B.ops (k : Int) = B.ops[k] := by simp [rd_T41, hk]
  have a := lineS_size _ (hI.ops _ (List.getElem_mem hk))
  have b := numS_size _ (nat_i64 k hl)
  have l1 : (⟨#[32]⟩ : ByteArray).size = 1 := rfl
  have l2 : (⟨#[10]⟩ : ByteArray).size = 1 := rfl
  unfold opF opP
  rw [hq]
  simp only [ByteArray.size_append]
  omega
theorem leftS_size (e : S54) (h : ExI e) (hl : e.f4.length ≤ 1000000) : (leftS e).size ≤ 60000000 := by
  have a := mapS_size e.f4 (leftS0 e) h.2.2.2.2
  have b := leftS0_size e h
  unfold leftS
  omega
theorem acc_le (a b c k : Nat) (h1 : a ≤ 300 * 512 + 70000000 * k) (h2 : b ≤ 22) (h3 : c ≤ 60000000) : a + (b + c + 1) ≤ 300 * 512 + 70000000 * (k + 1) := by omega
set_option maxHeartbeats 8000000 in
set_option maxRecDepth 100000 in
theorem text_c (B : BlkV) (g : Nat) (w : World) (hB : BlockAt w g B) (hM : Maps B) (hI : BlkI B) (hN : NamesIs w) (h : checkB B = 0) :
    Calls Tryd.prog 12 #[.pointer (some ⟨g, 0, none⟩)] w fun e w' => e = .returned (.string (textS B)) ∧ Below w.heap.size w w' := by
  obtain ⟨hp, ho, he, hr⟩ := check_ok B h
  have HC := Lib.hid (check_c B g w hB hM (by omega) (by omega) (by omega))
  rw [h] at HC
  obtain ⟨A1, c1, pc1, k1⟩ := hB.ops
  obtain ⟨A2, c2, pc2, k2⟩ := hB.exits
  have pc3 := hB.last
  have hg : g < w.heap.size := World.block_lt_of_cell? w ⟨g, 1, none⟩ pc1
  have H1 := Lib.hid (fun k hk => opB_code B _ (right_ops B hr k hk))
  have H2 := Lib.hid (fun k hk => leavesB_why B _ (right_exits B hr k hk))
  have HI := Lib.hid hI
  have HM := Lib.hid hM
  have HN := Lib.hid hN
  have HK1 := Lib.hid k1
  have HK2 := Lib.hid k2
  have HLs := Lib.hid (fun v => irnum_c ⟨#[108, 97, 115, 116, 32]⟩ (by decide) B.last hI.last v)
  have hls := numS_size _ hI.last
  obtain ⟨V, hV⟩ : ∃ V, V = textS B := ⟨_, rfl⟩
  rw [← hV]
  have HVV := Lib.hid hV
  clear hB hM hI hN k1 k2 hr h hV
  go_enter Tryd.func12, Tryd.ntmps12
  go_wp2_with fail
  refine HC.out.mono ?_
  rintro e w1 ⟨rfl, hb1⟩
  have p1 := cellk hb1 pc1
  have HW1 := Lib.hid hb1
  clear hb1 HC
  go_wp2
  go_loopw [3, 16] (fun t i wr => ∃ k : Nat, k ≤ B.ops.length ∧ i = .int .i64 k ∧ ∃ s : ByteArray, t = .string s ∧ Hid (s = foldS (opF B) ⟨#[]⟩ k) ∧ s.size ≤ 300 * k ∧ Hid (Below w.heap.size w wr)) (fun _ i _ => B.ops.length - (intOf i).toNat)
  case atStart => exact ⟨0, Nat.zero_le _, rfl, _, rfl, Lib.hid rfl, Nat.zero_le _, HW1⟩
  case round =>
    obtain ⟨k, hk, rfl, s, rfl, HS, hs, HB⟩ := hrel
    by_cases hlt : k < B.ops.length
    · obtain ⟨ad, rfl, d0, d1, d2, d3, d4, d5⟩ := at_T41 (Kd.C_below HK1.out HB.out) (k : Int) (by omega) (by omega)
      have hq : rd_T41 B.ops (k : Int) = B.ops[k] := by simp [rd_T41, hlt]
      have hoi := HI.out.ops _ (List.getElem_mem hlt)
      have hco := H1.out k hlt
      have hT := foldS_succ (opF B) ⟨#[]⟩ k
      have hsz := opF_size B HI.out k hlt (by omega)
      have ho1 : opF B k = ((numS (k : Int) ++ ⟨#[32]⟩) ++ lineS (rd_T41 B.ops (k : Int))) ++ ⟨#[10]⟩ := rfl
      rw [ho1] at hT hsz
      rw [← hq] at hoi
      have hln := lineS_size _ hoi
      have hnm := numS_size _ (nat_i64 k (by omega))
      simp only [Int.toNat_natCast] at d0 d1 d2 d3 d4 d5
      clear hq ho1
      generalize rd_T41 B.ops (k : Int) = q at *
      have HNum := Lib.hid (fun v => number_c (k : Int) (nat_i64 k (by omega)) v)
      have HLine := Lib.hid (fun v (hb : Below w.heap.size w v) => line_c q hco hoi v (HN.out.below hb))
      rw [← HS.out] at hT
      generalize numS (k : Int) = K at *
      generalize lineS q = L at *
      have HT := Lib.hid hT
      clear hT HS
      have z1 : K.size + 1 ≤ 9223372036854775807 := by omega
      have z2 : K.size + 1 + L.size ≤ 9223372036854775807 := by omega
      have z3 : K.size + 1 + L.size + 1 ≤ 9223372036854775807 := by omega
      have z4 : s.size + (K.size + 1 + L.size + 1) ≤ 9223372036854775807 := by omega
      have y2 : (K ++ ⟨#[32]⟩).size + L.size ≤ 9223372036854775807 := by rw [ByteArray.size_append, show (⟨#[32]⟩ : ByteArray).size = 1 from rfl]; omega
      have y3 : (K ++ ⟨#[32]⟩ ++ L).size + 1 ≤ 9223372036854775807 := by rw [ByteArray.size_append, ByteArray.size_append, show (⟨#[32]⟩ : ByteArray).size = 1 from rfl]; omega
      have y4 : s.size + (K ++ ⟨#[32]⟩ ++ L ++ ⟨#[10]⟩).size ≤ 9223372036854775807 := by omega
      have y5 : (s ++ (K ++ ⟨#[32]⟩ ++ L ++ ⟨#[10]⟩)).size ≤ 300 * (k + 1) := by rw [ByteArray.size_append]; omega
      clear hsz hln hnm hco hoi
      go_wp2
      refine wp_region_below (by kernel_rfl) (by kernel_rfl) ?_
      intro S _ F hF hS
      have e0 := fcell hF (b := wr.heap.size) (o := 0) (v := .int .i64 q.f0) (by simp [go_sem])
      have e1 := fcell hF (b := wr.heap.size) (o := 1) (v := .int .i64 q.f1) (by simp [go_sem])
      have e2 := fcell hF (b := wr.heap.size) (o := 2) (v := .int .i64 q.f2) (by simp [go_sem])
      have e3 := fcell hF (b := wr.heap.size) (o := 3) (v := .int .u32 q.f3) (by simp [go_sem])
      have e4 := fcell hF (b := wr.heap.size) (o := 4) (v := .int .i64 q.f4) (by simp [go_sem])
      have e5 := fcell hF (b := wr.heap.size) (o := 5) (v := .int .i64 q.f5) (by simp [go_sem])
      have HRF : ∀ s, Hid (Below w.heap.size w (F s)) := fun s => Lib.hid (bthen (bal HB.out _) (hF s))
      repeat (go_big_quiet_step (first | (go_at_call 26; exact qbelow hS (HNum.out _)) | (go_at_call 27; exact qbelow hS (HLine.out _ (HRF _).out)) | fail))
      refine wpQuiet_nil ?_
      intro w3 hw3
      obtain ⟨s2, rfl⟩ := hw3
      have HW3 := Lib.hid (HRF s2).out
      clear e0 e1 e2 e3 e4 e5 hF hS HRF HNum HLine
      generalize F s2 = w3 at *
      go_wp2
      go_roundw
      case rel => exact ⟨k + 1, by omega, by go_num, _, rfl, Lib.hid HT.out.symm, y5, HW3⟩
      case measure => simp [intOf]; omega
    · have hke : B.ops.length = k := by omega
      have hS := HS.out
      rw [← hke] at hS
      have HS1 := Lib.hid hS
      have hs1 : s.size ≤ 300 * 512 := by omega
      have p2 := cellk HB.out pc2
      clear hS HS hke H1 HK1 p1 pc1
      go_wp2
      go_loopw [3, 36] (fun t i wr => ∃ k : Nat, k ≤ B.exits.length ∧ i = .int .i64 k ∧ ∃ s : ByteArray, t = .string s ∧ Hid (s = foldS (exF B) (foldS (opF B) ⟨#[]⟩ B.ops.length) k) ∧ s.size ≤ 300 * 512 + 70000000 * k ∧ Hid (Below w.heap.size w wr)) (fun _ i _ => B.exits.length - (intOf i).toNat)
      case atStart => exact ⟨0, Nat.zero_le _, rfl, _, rfl, HS1, by omega, HB⟩
      case round =>
        clear HB p2 HS1 hs1 hs hlt
        obtain ⟨k, hk, rfl, s, rfl, HS, hs, HB⟩ := hrel
        by_cases hlt : k < B.exits.length
        · obtain ⟨ad, A4, c4, rfl, d0, d1, d2, d3, d4, l4, k4⟩ := at_T54 (Kd.C_below HK2.out HB.out) (k : Int) (by omega) (by omega)
          have hq : rd_T54 B.exits (k : Int) = B.exits[k] := by simp [rd_T54, hlt]
          have hoi := HI.out.exits _ (List.getElem_mem hlt)
          have hmm := HM.out (k : Int)
          have hco := H2.out k hlt
          have hT := foldS_succ (exF B) (foldS (opF B) ⟨#[]⟩ B.ops.length) k
          have ho1 : exF B k = ((⟨#[33]⟩ ++ numS (k : Int)) ++ leftS (rd_T54 B.exits (k : Int))) ++ ⟨#[10]⟩ := rfl
          rw [ho1] at hT
          rw [← hq] at hoi
          simp only [Int.toNat_natCast] at d0 d1 d2 d3 d4
          clear hq ho1
          generalize rd_T54 B.exits (k : Int) = q at *
          have hln := leftS_size _ hoi hmm
          have hnm := numS_size _ (nat_i64 k (by omega))
          have HNum := Lib.hid (fun v => irnum_c ⟨#[33]⟩ (by decide) (k : Int) (nat_i64 k (by omega)) v)
          have HLeft := Lib.hid (fun v (hb : Below wr.heap.size wr v) => left_c q hco hoi A4 c4 hmm v (Kd.C_below k4 hb))
          rw [← HS.out] at hT
          have hkn : (⟨#[33]⟩ ++ numS (k : Int) : ByteArray).size ≤ 22 := by rw [ByteArray.size_append, show (⟨#[33]⟩ : ByteArray).size = 1 from rfl]; omega
          generalize (⟨#[33]⟩ ++ numS (k : Int) : ByteArray) = K at *
          generalize leftS q = L at *
          have HT := Lib.hid hT
          clear hT HS k4
          have z2 : K.size + L.size ≤ 9223372036854775807 := by omega
          have z3 : K.size + L.size + 1 ≤ 9223372036854775807 := by omega
          have z4 : s.size + (K.size + L.size + 1) ≤ 9223372036854775807 := by omega
          have y3 : (K ++ L).size + 1 ≤ 9223372036854775807 := by rw [ByteArray.size_append]; omega
          have y4 : s.size + (K ++ L ++ ⟨#[10]⟩).size ≤ 9223372036854775807 := by rw [ByteArray.size_append, ByteArray.size_append, show (⟨#[10]⟩ : ByteArray).size = 1 from rfl]; omega
          have y5 : (s ++ (K ++ L ++ ⟨#[10]⟩)).size ≤ 300 * 512 + 70000000 * (k + 1) := by
            have q5 : (s ++ (K ++ L ++ ⟨#[10]⟩)).size = s.size + (K.size + L.size + 1) := by rw [ByteArray.size_append, ByteArray.size_append, ByteArray.size_append]; rfl
            rw [q5]
            exact acc_le _ _ _ k hs hkn hln
          clear hln hnm hco hoi hkn hmm
          go_wp2
          refine wp_region_below (by kernel_rfl) (by kernel_rfl) ?_
          intro S _ F hF hS
          have e0 := fcell hF (b := wr.heap.size) (o := 0) (v := .int .i64 q.f0) (by simp [go_sem])
          have e1 := fcell hF (b := wr.heap.size) (o := 1) (v := .int .u32 q.f1) (by simp [go_sem])
          have e2 := fcell hF (b := wr.heap.size) (o := 2) (v := .int .i64 q.f2) (by simp [go_sem])
          have e3 := fcell hF (b := wr.heap.size) (o := 3) (v := .int .i64 q.f3) (by simp [go_sem])
          have e4 := fcell hF (b := wr.heap.size) (o := 4) (v := .slice A4 q.f4.length c4) (by simp [go_sem])
          have HRF : ∀ s, Hid (Below wr.heap.size wr (F s)) := fun s => Lib.hid (bthen (bal (Below.refl _ _) _) (hF s))
          repeat (go_big_quiet_step (first | (go_at_call 28; exact qbelow hS (HNum.out _)) | (go_at_call 29; exact qbelow hS (HLeft.out _ (HRF _).out)) | fail))
          refine wpQuiet_nil ?_
          intro w3 hw3
          obtain ⟨s2, rfl⟩ := hw3
          have HW3 := Lib.hid (bthen HB.out (HRF s2).out)
          clear e0 e1 e2 e3 e4 hF hS HRF HNum HLeft
          generalize F s2 = w3 at *
          go_wp2
          go_roundw
          case rel => exact ⟨k + 1, by omega, by go_num, _, rfl, Lib.hid HT.out.symm, y5, HW3⟩
          case measure => simp [intOf]; omega
        · have hke : B.exits.length = k := by omega
          have hS := HS.out
          rw [← hke] at hS
          have hv : V = (s ++ (⟨#[108, 97, 115, 116, 32]⟩ ++ numS B.last)) ++ ⟨#[10]⟩ := by rw [hS]; exact HVV.out
          have hN : (⟨#[108, 97, 115, 116, 32]⟩ ++ numS B.last : ByteArray).size ≤ 30 := by rw [ByteArray.size_append, show (⟨#[108, 97, 115, 116, 32]⟩ : ByteArray).size = 5 from rfl]; omega
          have p3 := cellk HB.out pc3
          generalize (⟨#[108, 97, 115, 116, 32]⟩ ++ numS B.last : ByteArray) = N at *
          have HV2 := Lib.hid hv
          have z2 : s.size + N.size ≤ 9223372036854775807 := by omega
          have z3 : s.size + N.size + 1 ≤ 9223372036854775807 := by omega
          have z4 : (s ++ N).size + 1 ≤ 9223372036854775807 := by rw [ByteArray.size_append]; omega
          clear hS HS hke H2 HK2 hv HVV
          go_wp2_with fail
          refine (HLs.out _).mono ?_
          rintro e w4 ⟨rfl, hb4⟩
          have HW4 := Lib.hid (bthen HB.out hb4)
          clear hb4
          go_wp2
          go_ret
          exact ⟨ret_s HV2.out.symm, HW4.out⟩
end Go.Proofs.YtlnbghhhifnbdaaDoor

/- Contract of the example of the laws of layer 23: it returns true. Conditions: the listed variable holds what the program's text lays in it. -/
namespace Go.Proofs.YtlnbghhhifnbdaaDoor
open Go.RowKit Go.Proofs.YtlnbghhhifnbdaaDoorW.PrintWords Go.Proofs.YtlnbghhhifnbdaaDoorW.PrintLast Go.Proofs.YtlnbghhhifnbdaaDoorW.PrintMore Go.Proofs.YtlnbghhhifnbdaaDoor.PIrTexts
set_option linter.unusedVariables false
set_option linter.unusedSimpArgs false

theorem C_of_reps {α : Type} {d : Kd α} {w : World} {g t : Nat} {cs : List Value} {xs : List α} (hb : w.heap[g]? = some (.cells cs.toArray t (0, 0))) (hr : Reps (d.K w) d.sz xs cs) (hl : xs.length ≤ 9223372036854775807) : d.C w (some ⟨g, 0, none⟩) xs.length xs := by
  refine ⟨rfl, hl, fun _ => ⟨_, rfl, fun j p hj => ⟨(cs.drop (j * d.sz)).take d.sz, d.K_len (hr.2 j p hj), hr.2 j p hj, fun i u hu => ?_⟩⟩⟩
  have h2 : cs[j * d.sz + i]? = some u := by
    rw [List.getElem?_take] at hu
    split at hu
    · rwa [List.getElem?_drop] at hu
    · cases hu
  rw [add_plain, blk_cell hb, List.getElem?_toArray]
  exact h2
def Baw : BlkV := ⟨[0], [⟨1, 0, 0, 1, 0, 0⟩, ⟨2, 0, 0, 4, 0, 0⟩, ⟨3, 0, 1, 28, 0, 0⟩], [⟨1, 0, -1, 4, [⟨1, 2⟩]⟩], 0⟩
def awA (w : World) : World := w.alloc (.cells #[.int .u32 0] 36)
def awB (w : World) : World := (awA w).alloc (.cells #[.int .i64 1, .int .i64 0, .int .i64 0, .int .u32 1, .int .i64 0, .int .i64 0, .int .i64 2, .int .i64 0, .int .i64 0, .int .u32 4, .int .i64 0, .int .i64 0, .int .i64 3, .int .i64 0, .int .i64 1, .int .u32 28, .int .i64 0, .int .i64 0] 41)
def awC (w : World) : World := (awB w).alloc (.cells #[.int .i64 1, .int .i64 2] 56)
def awD (w : World) : World := (awC w).alloc (.cells #[.int .i64 1, .int .u32 0, .int .i64 (-1), .int .i64 4, .slice (some ⟨w.heap.size + 1 + 1, 0, none⟩) 1 1] 54)
def awE (w : World) : World := (awD w).alloc (.cells #[.slice (some ⟨w.heap.size, 0, none⟩) 1 1, .slice (some ⟨w.heap.size + 1, 0, none⟩) 3 3, .slice (some ⟨w.heap.size + 1 + 1 + 1, 0, none⟩) 1 1, .int .i64 0] 51)
theorem alloc_size (w : World) (o : Obj) : (w.alloc o).heap.size = w.heap.size + 1 := by simp
theorem aw_sizes (w : World) : (awA w).heap.size = w.heap.size + 1 ∧ (awB w).heap.size = w.heap.size + 1 + 1 ∧ (awC w).heap.size = w.heap.size + 1 + 1 + 1 ∧ (awD w).heap.size = w.heap.size + 1 + 1 + 1 + 1 := by
  refine ⟨?_, ?_, ?_, ?_⟩
  · rw [awA, alloc_size]
  · rw [awB, alloc_size, awA, alloc_size]
  · rw [awC, alloc_size, awB, alloc_size, awA, alloc_size]
  · rw [awD, alloc_size, awC, alloc_size, awB, alloc_size, awA, alloc_size]
theorem aw_below (w : World) : Below w.heap.size w (awE w) := bal (bal (bal (bal (bal (Below.refl _ _) _) _) _) _) _
theorem aw_block (w : World) : BlockAt (awE w) (w.heap.size + 1 + 1 + 1 + 1) Baw := by
  obtain ⟨z1, z2, z3, z4⟩ := aw_sizes w
  have b0 : (awE w).heap[w.heap.size]? = some (.cells [.int .u32 0].toArray 36 (0, 0)) := blk_alloc (blk_alloc (blk_alloc (blk_alloc (blk_new _ _) _) _) _) _
  have b1 : (awE w).heap[w.heap.size + 1]? = some (.cells [.int .i64 1, .int .i64 0, .int .i64 0, .int .u32 1, .int .i64 0, .int .i64 0, .int .i64 2, .int .i64 0, .int .i64 0, .int .u32 4, .int .i64 0, .int .i64 0, .int .i64 3, .int .i64 0, .int .i64 1, .int .u32 28, .int .i64 0, .int .i64 0].toArray 41 (0, 0)) := by
    rw [← z1]
    exact blk_alloc (blk_alloc (blk_alloc (blk_new _ _) _) _) _
  have b2 : (awE w).heap[w.heap.size + 1 + 1]? = some (.cells [.int .i64 1, .int .i64 2].toArray 56 (0, 0)) := by
    rw [← z2]
    exact blk_alloc (blk_alloc (blk_new _ _) _) _
  have b3 : (awE w).heap[w.heap.size + 1 + 1 + 1]? = some (.cells [.int .i64 1, .int .u32 0, .int .i64 (-1), .int .i64 4, .slice (some ⟨w.heap.size + 1 + 1, 0, none⟩) 1 1].toArray 54 (0, 0)) := by
    rw [← z3]
    exact blk_alloc (blk_new _ _) _
  have b4 : (awE w).heap[w.heap.size + 1 + 1 + 1 + 1]? = some (.cells [.slice (some ⟨w.heap.size, 0, none⟩) 1 1, .slice (some ⟨w.heap.size + 1, 0, none⟩) 3 3, .slice (some ⟨w.heap.size + 1 + 1 + 1, 0, none⟩) 1 1, .int .i64 0].toArray 51 (0, 0)) := by
    rw [← z4]
    exact blk_new _ _
  generalize awE w = V at *
  refine ⟨⟨_, 1, by rw [blk_cell b4]; rfl, C_of_reps (xs := [0]) b0 ?_ (by decide)⟩, ⟨_, 3, by rw [blk_cell b4]; rfl, C_of_reps (xs := ([⟨1, 0, 0, 1, 0, 0⟩, ⟨2, 0, 0, 4, 0, 0⟩, ⟨3, 0, 1, 28, 0, 0⟩] : List S41)) b1 ?_ (by decide)⟩, ⟨_, 1, by rw [blk_cell b4]; rfl, C_of_reps (xs := ([⟨1, 0, -1, 4, [⟨1, 2⟩]⟩] : List S54)) b3 ?_ (by decide)⟩, by rw [blk_cell b4]; rfl⟩
  · exact (Reps.none _ _).snoc (p := (0 : Int)) (c := [.int .u32 0]) rfl rfl
  · exact (((Reps.none _ _).snoc (k41_mk V ⟨1, 0, 0, 1, 0, 0⟩) rfl).snoc (k41_mk V ⟨2, 0, 0, 4, 0, 0⟩) rfl).snoc (k41_mk V ⟨3, 0, 1, 28, 0, 0⟩) rfl
  · exact (Reps.none _ _).snoc (k54_mk V ⟨1, 0, -1, 4, [⟨1, 2⟩]⟩ (c4 := 1) (by decide) (C_of_reps (xs := ([⟨1, 2⟩] : List S56)) b2 ((Reps.none _ _).snoc (k56_mk V ⟨1, 2⟩) rfl) (by decide))) rfl
theorem aw_check : checkB Baw = 0 := by decide +kernel
theorem aw_maps : Maps Baw := by
  intro n
  by_cases h : n.toNat = 0
  · simp [rd_T54, Baw, h]
  · have : rd_T54 Baw.exits n = z54 := by
      unfold rd_T54 Baw
      rw [List.getD_eq_getElem?_getD, List.getElem?_eq_none (by simp; omega)]
      rfl
    rw [this]
    exact Nat.zero_le _
theorem aw_ints : BlkI Baw := by
  refine ⟨fun o ho => ?_, fun e he => ?_, ⟨by decide, by decide⟩⟩
  · simp only [Baw, List.mem_cons, List.not_mem_nil, or_false] at ho
    rcases ho with rfl | rfl | rfl <;> refine ⟨⟨by decide, by decide⟩, ⟨by decide, by decide⟩, ⟨by decide, by decide⟩, ⟨by decide, by decide⟩, ⟨by decide, by decide⟩, ⟨by decide, by decide⟩⟩
  · simp only [Baw, List.mem_cons, List.not_mem_nil, or_false] at he
    subst he
    refine ⟨⟨by decide, by decide⟩, ⟨by decide, by decide⟩, ⟨by decide, by decide⟩, ⟨by decide, by decide⟩, fun v hv => ?_⟩
    simp only [List.mem_cons, List.not_mem_nil, or_false] at hv
    subst hv
    exact ⟨⟨by decide, by decide⟩, ⟨by decide, by decide⟩⟩
theorem numS_dig (k : Nat) (h : k < 10) : numS (k : Int) = strN [k + 48] := by
  unfold numS numN
  rw [show ((k : Int)).natAbs = k from rfl, chN_small k h, if_neg (by omega)]
  rfl
def awT : ByteArray := ⟨#[48, 32, 105, 110, 32, 120, 49, 10, 49, 32, 99, 111, 110, 115, 116, 32, 52, 10, 50, 32, 97, 100, 100, 32, 48, 32, 49, 10, 33, 48, 32, 100, 111, 110, 101, 32, 49, 32, 97, 116, 32, 48, 48, 48, 48, 48, 48, 48, 48, 32, 101, 110, 100, 32, 120, 49, 61, 50, 10, 108, 97, 115, 116, 32, 48, 10]⟩
theorem aw_text : textS Baw = awT := by
  have n0 : numS 0 = strN [48] := numS_dig 0 (by decide)
  have n1 : numS 1 = strN [49] := numS_dig 1 (by decide)
  have n2 : numS 2 = strN [50] := numS_dig 2 (by decide)
  have n4 : numS 4 = strN [52] := numS_dig 4 (by decide)
  have e0 : opF Baw 0 = ((numS 0 ++ ⟨#[32]⟩) ++ (⟨#[105, 110, 32]⟩ ++ (⟨#[120]⟩ ++ numS 1))) ++ ⟨#[10]⟩ := rfl
  have e1 : opF Baw 1 = ((numS 1 ++ ⟨#[32]⟩) ++ (⟨#[99, 111, 110, 115, 116, 32]⟩ ++ numS 4)) ++ ⟨#[10]⟩ := rfl
  have e2 : opF Baw 2 = ((numS 2 ++ ⟨#[32]⟩) ++ ((nameV 28 ++ (⟨#[32]⟩ ++ numS 0)) ++ (⟨#[32]⟩ ++ numS 1))) ++ ⟨#[10]⟩ := rfl
  have e3 : exF Baw 0 = ((⟨#[33]⟩ ++ numS 0) ++ ((((⟨#[32, 100, 111, 110, 101, 32]⟩ ++ numS 1) ++ (⟨#[32, 97, 116, 32]⟩ ++ hexS 0)) ++ (⟨#[32]⟩ ++ whyS 4)) ++ ((⟨#[32]⟩ ++ (⟨#[120]⟩ ++ numS 1)) ++ (⟨#[61]⟩ ++ numS 2)))) ++ ⟨#[10]⟩ := rfl
  have e4 : nameV 28 = strN [97, 100, 100] := rfl
  have e5 : hexS 0 = strN [48, 48, 48, 48, 48, 48, 48, 48] := rfl
  have e : textS Baw = ((((((⟨#[]⟩ ++ opF Baw 0) ++ opF Baw 1) ++ opF Baw 2) ++ exF Baw 0) ++ (⟨#[108, 97, 115, 116, 32]⟩ ++ numS 0)) ++ ⟨#[10]⟩) := rfl
  rw [e, e0, e1, e2, e3, e4, e5, n0, n1, n2, n4]
  decide +kernel
set_option maxHeartbeats 4000000 in
set_option maxRecDepth 100000 in
theorem awake23_c (w : World) (hN : NamesIs w) : Calls Tryd.prog 8 #[] w fun e w' => e = .returned (.bool true) ∧ Below w.heap.size w w' := by
  have HCK := Lib.hid (fun v (hB : BlockAt v (w.heap.size + 1 + 1 + 1 + 1) Baw) => aw_check ▸ check_c Baw (w.heap.size + 1 + 1 + 1 + 1) v hB aw_maps (by decide) (by decide) (by decide))
  have HTX := Lib.hid (fun v (hB : BlockAt v (w.heap.size + 1 + 1 + 1 + 1) Baw) (hb : Below w.heap.size w v) => aw_text ▸ text_c Baw (w.heap.size + 1 + 1 + 1 + 1) v hB aw_maps aw_ints (hN.below hb) aw_check)
  clear hN
  go_enter Tryd.func8, Tryd.ntmps8
  go_wp2_with fail
  have HBA := Lib.hid (aw_block w)
  have HBB := Lib.hid (aw_below w)
  refine (HCK.out _ HBA.out).mono ?_
  rintro e w1 ⟨rfl, hb1⟩
  have HBA1 := Lib.hid (HBA.out.below hb1)
  have HBB1 := Lib.hid (bthen HBB.out hb1)
  clear hb1
  go_wp2_with fail
  refine (HTX.out _ HBA1.out HBB1.out).mono ?_
  rintro e w2 ⟨rfl, hb2⟩
  have HBB2 := Lib.hid (bthen HBB1.out hb2)
  clear hb2
  unfold awT
  go_wp2
  go_ret
  exact ⟨rfl, HBB2.out⟩
end Go.Proofs.YtlnbghhhifnbdaaDoor

/- The plain law: the reference's Check of layer 23, as a plain function, answers as the program's. Conditions: the maps have at most 100 entries. -/
namespace Go.Proofs.YtlnbghhhifnbdaaDoor
open Go.RowKit Go.Proofs.YtlnbghhhifnbdaaDoorW.PrintWords Go.Proofs.YtlnbghhhifnbdaaDoorW.PrintLast Go.Proofs.YtlnbghhhifnbdaaDoorW.PrintMore Go.Proofs.YtlnbghhhifnbdaaDoor.PIrTexts
set_option linter.unusedVariables false
set_option linter.unusedSimpArgs false

theorem w64n (k : Nat) (h : k ≤ 1000000) : wrap64 ((k : Int) + 1) = ((k + 1 : Nat) : Int) := by unfold wrap64; omega
theorem rd_ops (ops : List S38) (n : Int) : rd_T41 (ops.map opOf) n = opOf (rd_T38 ops n) := by
  unfold rd_T41 rd_T38
  rw [List.getD_eq_getElem?_getD, List.getD_eq_getElem?_getD, List.getElem?_map]
  cases ops[n.toNat]? <;> rfl
theorem rd_exits (exits : List S59) (n : Int) : rd_T54 (exits.map exitOf) n = exitOf (rd_T59 exits n) := by
  unfold rd_T54 rd_T59
  rw [List.getD_eq_getElem?_getD, List.getD_eq_getElem?_getD, List.getElem?_map]
  cases exits[n.toNat]? <;> rfl
section
variable (pcs : List Int) (ops : List S38) (exits : List S59) (last : Int)
theorem value_f (n a : Int) : mimesisref23_Value.f pcs ops exits last n a = some (valB (blkOf pcs ops exits last) n a) := by
  unfold mimesisref23_Value.f valB valuedB
  have e1 : (blkOf pcs ops exits last).ops = ops.map opOf := rfl
  rw [e1, rd_ops, List.length_map]
  have e2 : (opOf (rd_T38 ops n)).f0 = (rd_T38 ops n).f0 := rfl
  rw [e2]
  generalize (rd_T38 ops n).f0 = c
  by_cases h0 : 0 ≤ n
  · by_cases h1 : n < a
    · by_cases h2 : n < (ops.length : Int)
      · by_cases h3 : 1 ≤ c
        · simp [h0, h1, h2, h3]
        · simp [h0, h1, h2, h3]
      · simp [h0, h1, h2]
    · simp [h0, h1]
  · simp [h0]
theorem exit_l0 (a f0 f1 f2 f3 : Int) (xs : List S62) (hx : xs.length ≤ 100) : ∀ (m i k : Nat), i + m = xs.length → m < k →
    mimesisref23_exit.l0 k a (i : Int) pcs ops exits last f0 f1 f2 f3 xs = some (!((xs.drop i).map valOf).any (badB (blkOf pcs ops exits last) a) && (decide (f2 = -1) || valB (blkOf pcs ops exits last) f2 a)) := by
  intro m
  induction m with
  | zero =>
    intro i k hi hk
    obtain ⟨k, rfl⟩ : ∃ q, k = q + 1 := ⟨k - 1, by omega⟩
    rw [mimesisref23_exit.l0, if_neg (by omega), List.drop_eq_nil_of_le (by omega)]
    by_cases h : f2 = -1
    · simp [h]
    · rw [if_neg h, value_f, Option.bind_some]
      simp [h]
  | succ m ih =>
    intro i k hi hk
    obtain ⟨k, rfl⟩ : ∃ q, k = q + 1 := ⟨k - 1, by omega⟩
    have hlt : i < xs.length := by omega
    have hq : rd_T62 xs (i : Int) = xs[i] := by simp [rd_T62, hlt]
    rw [mimesisref23_exit.l0, if_pos (by omega), if_pos (by omega), value_f, Option.bind_some, w64n i (by omega), ih (i + 1) k (by omega) (by omega), hq, List.drop_eq_getElem_cons hlt]
    have hb : badB (blkOf pcs ops exits last) a (valOf xs[i]) = !valB (blkOf pcs ops exits last) xs[i].f1 a := rfl
    rw [List.map_cons, List.any_cons, hb]
    cases valB (blkOf pcs ops exits last) xs[i].f1 a <;> simp
theorem exit_f (hM : ∀ n : Int, (rd_T59 exits n).f4.length ≤ 100) (n a : Int) (k : Nat) (hk : 105 ≤ k) : mimesisref23_exit.f k pcs ops exits last n a = some (exitB (blkOf pcs ops exits last) n a) := by
  obtain ⟨k, rfl⟩ : ∃ q, k = q + 1 := ⟨k - 1, by omega⟩
  unfold mimesisref23_exit.f exitB
  have e1 : (blkOf pcs ops exits last).exits = exits.map exitOf := rfl
  rw [e1, rd_exits, List.length_map]
  by_cases h0 : n < 0
  · rw [if_pos h0, mimesisref23_exit.j0, if_pos rfl]
    simp; omega
  · by_cases h1 : n < (exits.length : Int)
    · rw [if_neg h0, mimesisref23_exit.j0, if_neg (by simp; omega), if_pos (by omega), if_pos h1]
      have := exit_l0 pcs ops exits last a (rd_T59 exits n).f0 (rd_T59 exits n).f1 (rd_T59 exits n).f2 (rd_T59 exits n).f3 (rd_T59 exits n).f4 (hM n) _ 0 k (by rw [Nat.zero_add]) (by have := hM n; omega)
      rw [show ((0 : Nat) : Int) = 0 from rfl] at this
      rw [this, List.drop_zero]
      have e2 : (exitOf (rd_T59 exits n)).f2 = (rd_T59 exits n).f2 := rfl
      have e4 : (exitOf (rd_T59 exits n)).f4 = (rd_T59 exits n).f4.map valOf := rfl
      rw [e2, e4, decide_eq_true (by omega : 0 ≤ n), decide_eq_true h1, Bool.true_and, Bool.true_and, Bool.and_comm]
    · rw [if_neg h0, mimesisref23_exit.j0, if_pos (by simp; omega)]
      simp [h1]
theorem rreckon_f (n : Int) : mimesisref23_Reckons.f n = some (reckB n) := by
  unfold mimesisref23_Reckons.f mimesisref07_Has.f mimesisref08_Has.f reckB
  by_cases h : 19 ≤ n <;> by_cases h1 : n ≤ 37 <;> by_cases h2 : 50 ≤ n <;> by_cases h3 : n ≤ 57 <;> simp [h, h1, h2, h3] <;> omega
theorem rload_f (n : Int) (k : Nat) (hk : 2 ≤ k) : mimesisref02_Loads.f k n = some (loadV n) := by
  obtain ⟨k, rfl⟩ : ∃ q, k = q + 2 := ⟨k - 2, by omega⟩
  unfold mimesisref02_Loads.f loadV
  by_cases h : n = 11
  · simp [h, mimesisref02_Loads.j0]
  by_cases h1 : n = 14
  · simp [h, h1, mimesisref02_Loads.j0]
  by_cases h2 : n = 12
  · simp [h, h1, h2, mimesisref02_Loads.j0, mimesisref02_Loads.j1]
  by_cases h3 : n = 15
  · simp [h, h1, h2, h3, mimesisref02_Loads.j0, mimesisref02_Loads.j1]
  by_cases h4 : n = 13
  · simp [h, h1, h2, h3, h4, mimesisref02_Loads.j0, mimesisref02_Loads.j1]
  · simp [h, h1, h2, h3, h4, mimesisref02_Loads.j0, mimesisref02_Loads.j1]
theorem rstore_f (n : Int) : mimesisref02_Stores.f n = some (storeV n) := by
  unfold mimesisref02_Stores.f storeV
  by_cases h : n = 16
  · simp [h]
  by_cases h1 : n = 17
  · simp [h, h1]
  by_cases h2 : n = 18
  · simp [h, h1, h2]
  · simp [h, h1, h2]
end
end Go.Proofs.YtlnbghhhifnbdaaDoor

/- The plain law, further: the reference's Check of layer 23 as a plain function answers as the program's; light. Conditions: the maps have at most 100 entries. -/
namespace Go.Proofs.YtlnbghhhifnbdaaDoor
open Go.RowKit Go.Proofs.YtlnbghhhifnbdaaDoorW.PrintWords Go.Proofs.YtlnbghhhifnbdaaDoorW.PrintLast Go.Proofs.YtlnbghhhifnbdaaDoorW.PrintMore Go.Proofs.YtlnbghhhifnbdaaDoor.PIrTexts
set_option linter.unusedVariables false
set_option linter.unusedSimpArgs false

section
variable (pcs : List Int) (ops : List S38) (exits : List S59) (last : Int)
/-- Is an operation right, as the judge says it, of the operation itself. -/
def opV (B : BlkV) (k : Int) (o : S41) : Bool := kindB o && (namedB o && ((usesL o).all (fun n => valB B n k) && (if o.f0 = 5 then exitB B o.f4 k && exitB B o.f5 k else if o.f0 = 4 ∨ o.f0 = 6 then exitB B o.f4 k else true)))
theorem b0 (n : Int) : (0 == n) = decide (n = 0) := by
  by_cases h : n = 0
  · subst h; rfl
  · rw [decide_eq_false h]
    exact beq_eq_false_iff_ne.mpr (fun e => h e.symm)
set_option maxHeartbeats 4000000 in
theorem op_j0 (hM : ∀ n : Int, (rd_T59 exits n).f4.length ≤ 100) (x1 : Int) (x : S38) (bare : Bool) (hb : bare = (decide (x.f4 = 0) && decide (x.f5 = 0))) (k : Nat) (hk : 106 ≤ k) :
    mimesisref23_op.j0 k x1 (wrap64 x.f3) bare pcs ops exits last x.f0 x.f1 x.f2 x.f3 x.f4 x.f5 = some (opV (blkOf pcs ops exits last) x1 (opOf x)) := by
  obtain ⟨k, rfl⟩ : ∃ q, k = q + 1 := ⟨k - 1, by omega⟩
  obtain ⟨f0, f1, f2, f3, f4, f5⟩ := x
  simp only at hb
  simp only [mimesisref23_op.j0, value_f, rreckon_f, rload_f _ k (by omega), rstore_f, exit_f pcs ops exits last hM _ _ k (by omega), Option.bind_some]
  unfold opV kindB namedB usesL
  simp only [opOf, b0]
  generalize blkOf pcs ops exits last = B
  subst hb
  by_cases h1 : f0 = 1
  · subst h1
    by_cases a : 1 ≤ wrap64 f3 <;> by_cases b : wrap64 f3 ≤ 31 <;> by_cases c : f4 = 0 <;> by_cases d : f5 = 0 <;> by_cases e : f1 = 0 <;> by_cases g : f2 = 0 <;> simp [a, b, c, d, e, g]
  by_cases h2 : f0 = 2
  · subst h2
    by_cases c : f4 = 0 <;> by_cases d : f5 = 0 <;> by_cases e : f1 = 0 <;> by_cases g : f2 = 0 <;> simp [c, d, e, g]
  by_cases h3 : f0 = 3
  · subst h3
    rcases Bool.eq_false_or_eq_true (valB B f1 x1) with u | u <;> rcases Bool.eq_false_or_eq_true (valB B f2 x1) with v | v <;> rcases Bool.eq_false_or_eq_true (reckB (wrap64 f3)) with r | r <;> by_cases c : f4 = 0 <;> by_cases d : f5 = 0 <;> simp [c, d, u, v, r]
  by_cases h4 : f0 = 4
  · subst h4
    rcases Bool.eq_false_or_eq_true (valB B f1 x1) with u | u <;> rcases Bool.eq_false_or_eq_true (exitB B f4 x1) with v | v <;> by_cases c : f2 = 0 <;> by_cases d : f5 = 0 <;> by_cases e : 0 < loadV (wrap64 f3) <;> simp [c, d, e, u, v]
  by_cases h5 : f0 = 5
  · subst h5
    rcases Bool.eq_false_or_eq_true (valB B f1 x1) with u | u <;> rcases Bool.eq_false_or_eq_true (valB B f2 x1) with u2 | u2 <;> rcases Bool.eq_false_or_eq_true (exitB B f4 x1) with v | v <;> rcases Bool.eq_false_or_eq_true (exitB B f5 x1) with v2 | v2 <;> by_cases e : 0 < storeV (wrap64 f3) <;> simp [e, u, u2, v, v2]
  by_cases h6 : f0 = 6
  · subst h6
    rcases Bool.eq_false_or_eq_true (valB B f1 x1) with u | u <;> rcases Bool.eq_false_or_eq_true (valB B f2 x1) with u2 | u2 <;> rcases Bool.eq_false_or_eq_true (exitB B f4 x1) with v | v <;> by_cases a : 5 ≤ wrap64 f3 <;> by_cases b : wrap64 f3 ≤ 10 <;> by_cases d : f5 = 0 <;> simp [a, b, d, u, u2, v]
  simp [h1, h2, h3, h4, h5, h6]
theorem op_f (hM : ∀ n : Int, (rd_T59 exits n).f4.length ≤ 100) (n : Nat) (hn : n < ops.length) (k : Nat) (hk : 106 ≤ k) : mimesisref23_op.f k pcs ops exits last (n : Int) = some (opB (blkOf pcs ops exits last) (n : Int)) := by
  have e : opB (blkOf pcs ops exits last) (n : Int) = opV (blkOf pcs ops exits last) (n : Int) (opOf (rd_T38 ops (n : Int))) := by
    unfold opB opV
    have e1 : (blkOf pcs ops exits last).ops = ops.map opOf := rfl
    rw [e1, rd_ops]
  unfold mimesisref23_op.f
  rw [if_pos (by omega), if_pos (by omega), e]
  by_cases h : (rd_T38 ops (n : Int)).f4 = 0
  · rw [if_pos h]
    refine op_j0 pcs ops exits last hM _ _ _ ?_ k hk
    rw [decide_eq_true h, Bool.true_and]
    by_cases h5 : (rd_T38 ops (n : Int)).f5 = 0
    · rw [h5]; rfl
    · rw [decide_eq_false h5]; exact beq_eq_false_iff_ne.mpr h5
  · rw [if_neg h]
    refine op_j0 pcs ops exits last hM _ _ _ ?_ k hk
    rw [decide_eq_false h, Bool.false_and]
theorem leaves_l0 (f0 f1 f2 f3 : Int) (xs : List S62) (hx : xs.length ≤ 100) : ∀ (m i k : Nat) (p : Int), i + m = xs.length → m < k → (i = 0 → p = 0) → (∀ j : Nat, i = j + 1 → p = (rd_T62 xs (j : Int)).f0 ∧ 1 ≤ p) →
    mimesisref23_leaves.l0 k (i : Int) f0 f1 f2 f3 xs = some (risingB p ((xs.drop i).map valOf)) := by
  intro m
  induction m with
  | zero =>
    intro i k p hi hk _ _
    obtain ⟨k, rfl⟩ : ∃ q, k = q + 1 := ⟨k - 1, by omega⟩
    rw [mimesisref23_leaves.l0, if_neg (by omega), List.drop_eq_nil_of_le (by omega)]
    rfl
  | succ m ih =>
    intro i k p hi hk hp0 hp1
    obtain ⟨k, rfl⟩ : ∃ q, k = q + 1 := ⟨k - 1, by omega⟩
    have hlt : i < xs.length := by omega
    have hq : rd_T62 xs (i : Int) = xs[i] := by simp [rd_T62, hlt]
    have hs : risingB p ((xs.drop i).map valOf) = (!decide (xs[i].f0 ≤ p) && (!decide (31 < xs[i].f0) && risingB xs[i].f0 ((xs.drop (i + 1)).map valOf))) := by
      rw [List.drop_eq_getElem_cons hlt]
      rfl
    have hI := fun h1 : 1 ≤ xs[i].f0 => ih (i + 1) k xs[i].f0 (by omega) (by omega) (by omega) (fun j hj => by
      obtain rfl : j = i := by omega
      exact ⟨by rw [hq], h1⟩)
    rw [mimesisref23_leaves.l0, if_pos (by omega), if_pos (by omega), hq, hs]
    by_cases h1 : xs[i].f0 < 1
    · rw [if_pos h1]
      have : xs[i].f0 ≤ p := by
        cases i with
        | zero => have := hp0 rfl; omega
        | succ j => have := (hp1 j rfl).2; omega
      simp [this]
    rw [if_neg h1]
    by_cases h2 : 31 < xs[i].f0
    · rw [if_pos h2]
      simp [h2]
    rw [if_neg h2]
    cases i with
    | zero =>
      have := hp0 rfl
      rw [if_neg (by omega), w64n 0 (by omega), hI (by omega), decide_eq_false (by omega : ¬ xs[0].f0 ≤ p), decide_eq_false h2]
      rfl
    | succ j =>
      have hp := hp1 j rfl
      rw [if_pos (by omega), show wrap64 (((j + 1 : Nat) : Int) - 1) = (j : Int) by unfold wrap64; omega, if_pos (by omega), if_pos (by omega), ← hp.1]
      by_cases h3 : xs[j + 1].f0 ≤ p
      · rw [if_pos h3]
        simp [h3]
      · rw [if_neg h3, w64n (j + 1) (by omega), hI (by omega), decide_eq_false h3, decide_eq_false h2]
        rfl
theorem leaves_f (hM : ∀ n : Int, (rd_T59 exits n).f4.length ≤ 100) (n : Nat) (hn : n < exits.length) (k : Nat) (hk : 106 ≤ k) : mimesisref23_leaves.f k pcs ops exits last (n : Int) = some (leavesB (blkOf pcs ops exits last) (n : Int)) := by
  obtain ⟨k, rfl⟩ : ∃ q, k = q + 1 := ⟨k - 1, by omega⟩
  unfold mimesisref23_leaves.f leavesB
  have e1 : (blkOf pcs ops exits last).exits = exits.map exitOf := rfl
  have e2 : (blkOf pcs ops exits last).ops.length = ops.length := by simp [blkOf]
  have e3 : (blkOf pcs ops exits last).pcs = pcs := rfl
  rw [e1, rd_exits, e2, e3, if_pos (by omega), if_pos (by omega), exit_f pcs ops exits last hM _ _ (k + 1) (by omega), Option.bind_some]
  have hm := hM (n : Int)
  have hl := fun f0 f1 f2 f3 => leaves_l0 f0 f1 f2 f3 (rd_T59 exits (n : Int)).f4 hm _ 0 k 0 (by rw [Nat.zero_add]) (by omega) (fun _ => rfl) (fun j hj => by omega)
  generalize exitB (blkOf pcs ops exits last) (n : Int) (ops.length : Int) = E
  generalize rd_T59 exits (n : Int) = x at *
  have hl' : ∀ f0 f1 f2 f3 : Int, mimesisref23_leaves.l0 k 0 f0 f1 f2 f3 x.f4 = some (risingB 0 (x.f4.map valOf)) := fun f0 f1 f2 f3 => by
    have := hl f0 f1 f2 f3
    rwa [List.drop_zero] at this
  have g : exitOf x = ⟨x.f0, x.f1, x.f2, x.f3, x.f4.map valOf⟩ := rfl
  rw [g]
  simp only [mimesisref23_leaves.j0, hl']
  generalize risingB 0 (x.f4.map valOf) = r
  cases E
  · simp
  by_cases h0 : x.f0 < 0
  · simp [h0]
  by_cases h1 : (pcs.length : Int) < x.f0
  · simp [h0, h1]
  by_cases h2 : x.f1.tmod 4 = 0
  · by_cases h3 : x.f3 < 1
    · simp [h0, h1, h2, h3]
    · by_cases h4 : 4 < x.f3
      · simp [h0, h1, h2, h3, h4]
      · simp [h0, h1, h2, h3, h4]
  · simp [h0, h1, h2]
theorem check_l2 (hM : ∀ n : Int, (rd_T59 exits n).f4.length ≤ 100) (hp : pcs.length ≤ 32) : ∀ (m i k : Nat), i + m = pcs.length → m + 110 ≤ k →
    mimesisref23_Check.l2 k (i : Int) pcs ops exits last = some (if (!(pcs.drop i).any oddB && (decide (0 < pcs.length) && exitB (blkOf pcs ops exits last) last ops.length)) = true then 0 else 1) := by
  intro m
  induction m with
  | zero =>
    intro i k hi hk
    obtain ⟨k, rfl⟩ : ∃ q, k = q + 1 := ⟨k - 1, by omega⟩
    rw [mimesisref23_Check.l2, if_neg (by omega), List.drop_eq_nil_of_le (by omega), exit_f pcs ops exits last hM _ _ k (by omega), Option.bind_some]
    by_cases h : pcs.length = 0
    · rw [if_pos (by omega)]
      simp [h]
    · rw [if_neg (by omega)]
      cases exitB (blkOf pcs ops exits last) last (ops.length : Int)
      · simp
      · simp [show 0 < pcs.length by omega]
  | succ m ih =>
    intro i k hi hk
    obtain ⟨k, rfl⟩ : ∃ q, k = q + 1 := ⟨k - 1, by omega⟩
    have hlt : i < pcs.length := by omega
    have hq : rd pcs (i : Int) = pcs[i] := by simp [rd, hlt]
    rw [mimesisref23_Check.l2, if_pos (by omega), if_pos (by omega), w64n i (by omega), ih (i + 1) k (by omega) (by omega), hq, List.drop_eq_getElem_cons hlt, List.any_cons]
    have ho : oddB pcs[i] = (pcs[i].tmod 4 != 0) := rfl
    rw [ho]
    by_cases h : pcs[i].tmod 4 = 0
    · rw [if_pos h]
      simp [h]
    · rw [if_neg h, (by simpa using h : (pcs[i].tmod 4 != 0) = true)]
      simp
theorem check_l1 (hM : ∀ n : Int, (rd_T59 exits n).f4.length ≤ 100) (hp : pcs.length ≤ 32) (he : exits.length ≤ 128) : ∀ (m i k : Nat), i + m = exits.length → m + 150 ≤ k →
    mimesisref23_Check.l1 k (i : Int) pcs ops exits last = some (if ((List.range' i m).all (fun n => leavesB (blkOf pcs ops exits last) (n : Int)) && (!pcs.any oddB && (decide (0 < pcs.length) && exitB (blkOf pcs ops exits last) last ops.length))) = true then 0 else 1) := by
  intro m
  induction m with
  | zero =>
    intro i k hi hk
    obtain ⟨k, rfl⟩ : ∃ q, k = q + 1 := ⟨k - 1, by omega⟩
    have := check_l2 pcs ops exits last hM hp _ 0 k (by rw [Nat.zero_add]) (by omega)
    rw [show ((0 : Nat) : Int) = 0 from rfl, List.drop_zero] at this
    rw [mimesisref23_Check.l1, if_neg (by omega), this]
    rfl
  | succ m ih =>
    intro i k hi hk
    obtain ⟨k, rfl⟩ : ∃ q, k = q + 1 := ⟨k - 1, by omega⟩
    have hlt : i < exits.length := by omega
    rw [mimesisref23_Check.l1, if_pos (by omega), leaves_f pcs ops exits last hM i hlt k (by omega), Option.bind_some, w64n i (by omega), ih (i + 1) k (by omega) (by omega), List.range'_succ, List.all_cons]
    cases leavesB (blkOf pcs ops exits last) (i : Int)
    · rfl
    · rfl
theorem check_l0 (hM : ∀ n : Int, (rd_T59 exits n).f4.length ≤ 100) (hp : pcs.length ≤ 32) (ho : ops.length ≤ 512) (he : exits.length ≤ 128) : ∀ (m i k : Nat), i + m = ops.length → m + 300 ≤ k →
    mimesisref23_Check.l0 k (i : Int) pcs ops exits last = some (if ((List.range' i m).all (fun n => opB (blkOf pcs ops exits last) (n : Int)) && ((List.range exits.length).all (fun n => leavesB (blkOf pcs ops exits last) (n : Int)) && (!pcs.any oddB && (decide (0 < pcs.length) && exitB (blkOf pcs ops exits last) last ops.length)))) = true then 0 else 1) := by
  intro m
  induction m with
  | zero =>
    intro i k hi hk
    obtain ⟨k, rfl⟩ : ∃ q, k = q + 1 := ⟨k - 1, by omega⟩
    have := check_l1 pcs ops exits last hM hp he _ 0 k (by rw [Nat.zero_add]) (by omega)
    rw [show ((0 : Nat) : Int) = 0 from rfl] at this
    rw [mimesisref23_Check.l0, if_neg (by omega), this, ← List.range_eq_range']
    rfl
  | succ m ih =>
    intro i k hi hk
    obtain ⟨k, rfl⟩ : ∃ q, k = q + 1 := ⟨k - 1, by omega⟩
    have hlt : i < ops.length := by omega
    rw [mimesisref23_Check.l0, if_pos (by omega), op_f pcs ops exits last hM i hlt k (by omega), Option.bind_some, w64n i (by omega), ih (i + 1) k (by omega) (by omega), List.range'_succ, List.all_cons]
    cases opB (blkOf pcs ops exits last) (i : Int)
    · rfl
    · rfl
theorem check_f (hM : ∀ n : Int, (rd_T59 exits n).f4.length ≤ 100) : mimesisref23_Check.f 1000 pcs ops exits last = some (checkB (blkOf pcs ops exits last)) := by
  unfold mimesisref23_Check.f checkB
  have e0 : (blkOf pcs ops exits last).pcs = pcs := rfl
  have e1 : (blkOf pcs ops exits last).ops.length = ops.length := by simp [blkOf]
  have e2 : (blkOf pcs ops exits last).exits.length = exits.length := by simp [blkOf]
  have e3 : (blkOf pcs ops exits last).last = last := rfl
  rw [e0, e1, e2]
  by_cases h0 : 32 < pcs.length
  · rw [if_pos (by omega), if_pos (by omega), mimesisref23_Check.j0, if_pos rfl]
  rw [if_neg (by omega)]
  by_cases h1 : 512 < ops.length
  · rw [if_pos (by omega), if_pos (by omega), mimesisref23_Check.j0, if_pos rfl]
  rw [if_neg (by omega)]
  by_cases h2 : 128 < exits.length
  · rw [if_pos (by omega), mimesisref23_Check.j0, if_pos (by simp; omega)]
  have := check_l0 pcs ops exits last hM (by omega) (by omega) (by omega) _ 0 999 (by rw [Nat.zero_add]) (by omega)
  rw [show ((0 : Nat) : Int) = 0 from rfl] at this
  rw [if_neg (by omega), mimesisref23_Check.j0, if_neg (by simp; omega), this, ← List.range_eq_range']
  unfold rightB
  rw [e0, e1, e2, e3]
  congr 2
  rw [Bool.and_left_comm (!pcs.any oddB)]
def lightB : Bool := decide (pcs.length ≤ 100) && (decide (ops.length ≤ 1000) && (decide (exits.length ≤ 300) && exits.all (fun e => decide (e.f4.length ≤ 100))))
theorem light_l0 : ∀ (m i k : Nat), exits.length ≤ 300 → i + m = exits.length → m < k →
    mimesislaw23_light.l0 k (i : Int) pcs ops exits last = some ((exits.drop i).all (fun e => decide (e.f4.length ≤ 100))) := by
  intro m
  induction m with
  | zero =>
    intro i k hl hi hk
    obtain ⟨k, rfl⟩ : ∃ q, k = q + 1 := ⟨k - 1, by omega⟩
    rw [mimesislaw23_light.l0, if_neg (by omega), List.drop_eq_nil_of_le (by omega)]
    rfl
  | succ m ih =>
    intro i k hl hi hk
    obtain ⟨k, rfl⟩ : ∃ q, k = q + 1 := ⟨k - 1, by omega⟩
    have hlt : i < exits.length := by omega
    have hq : rd_T59 exits (i : Int) = exits[i] := by simp [rd_T59, hlt]
    rw [mimesislaw23_light.l0, if_pos (by omega), if_pos (by omega), w64n i (by omega), ih (i + 1) k hl (by omega) (by omega), hq, List.drop_eq_getElem_cons hlt, List.all_cons]
    by_cases h : 100 < exits[i].f4.length
    · rw [if_pos (by omega), decide_eq_false (by omega)]
      rfl
    · rw [if_neg (by omega), decide_eq_true (by omega)]
      rfl
theorem light_f : mimesislaw23_light.f 400 pcs ops exits last = some (lightB pcs ops exits) := by
  unfold mimesislaw23_light.f lightB
  by_cases h0 : 100 < pcs.length
  · rw [if_pos (by omega), mimesislaw23_light.j0, if_pos rfl, decide_eq_false (show ¬ pcs.length ≤ 100 by omega)]
    rfl
  rw [if_neg (by omega), decide_eq_true (show pcs.length ≤ 100 by omega), Bool.true_and]
  by_cases h1 : 1000 < ops.length
  · rw [if_pos (by omega), mimesislaw23_light.j0, if_pos rfl, decide_eq_false (show ¬ ops.length ≤ 1000 by omega)]
    rfl
  rw [if_neg (by omega), decide_eq_true (show ops.length ≤ 1000 by omega), Bool.true_and]
  by_cases h2 : 300 < exits.length
  · rw [mimesislaw23_light.j0, if_pos (by simp; omega), decide_eq_false (show ¬ exits.length ≤ 300 by omega)]
    rfl
  have := light_l0 pcs ops exits last _ 0 399 (by omega) (by rw [Nat.zero_add]) (by omega)
  rw [show ((0 : Nat) : Int) = 0 from rfl, List.drop_zero] at this
  rw [mimesislaw23_light.j0, if_neg (by simp; omega), decide_eq_true (show exits.length ≤ 300 by omega), Bool.true_and, this]
theorem light_maps (h : lightB pcs ops exits = true) : pcs.length ≤ 100 ∧ ops.length ≤ 1000 ∧ exits.length ≤ 300 ∧ (∀ x ∈ exits, x.f4.length ≤ 100) ∧ ∀ n : Int, (rd_T59 exits n).f4.length ≤ 100 := by
  unfold lightB at h
  simp only [Bool.and_eq_true, decide_eq_true_eq, List.all_eq_true] at h
  refine ⟨h.1, h.2.1, h.2.2.1, h.2.2.2, fun n => ?_⟩
  unfold rd_T59
  rw [List.getD_eq_getElem?_getD]
  cases hq : exits[n.toNat]? with
  | none => exact Nat.zero_le _
  | some x => exact h.2.2.2 x (List.mem_of_getElem? hq)
end
end Go.Proofs.YtlnbghhhifnbdaaDoor

/- Proved: a law for a region that draws its order: each operation leaves a fact that later worlds keep, and is walked once, from the facts of the operations that it waits for. Conditions: the temporaries are distinct, and no operation waits for a later one. -/
namespace Go.Proofs.YtlnbghhhifnbdaaDoor
open Go.RowKit
set_option linter.unusedVariables false
set_option linter.unusedSimpArgs false

def oget (o : Oper) (a : Act) : Value := (o.dst.map fun d => a.tmps.getD d undef).getD undef
def putAll (vs : Nat → Value) : Nat → List Oper → Act → Act
  | _, [], a => a
  | k, o :: l, a => putAll vs (k + 1) l (a.put o.dst (vs k))
def factB (n : Nat) (l : List Oper) : Bool :=
  l.zipIdx.all fun x => (x.1.after.toList.all fun e => !Region.binds .any e || decide (e.on < x.2)) && (x.1.dst.all fun d => decide (d < n)) && (l.zipIdx.all fun y => x.2 == y.2 || x.1.dst == none || x.1.dst != y.1.dst)
theorem factB_spec {n : Nat} {l : List Oper} (h : factB n l = true) {j : Nat} {o : Oper} (ho : l[j]? = some o) :
    (∀ e ∈ o.after, Region.binds .any e = true → e.on < j) ∧ (∀ d, o.dst = some d → d < n) ∧ ∀ (j' : Nat) (o' : Oper), l[j']? = some o' → j ≠ j' → ∀ d, o.dst = some d → o'.dst ≠ some d := by
  unfold factB at h
  rw [List.all_eq_true] at h
  have h1 := h (o, j) (List.mem_zipIdx_iff_getElem?.2 ho)
  simp only [Bool.and_eq_true, List.all_eq_true] at h1
  obtain ⟨⟨h1, h2⟩, h3⟩ := h1
  refine ⟨fun e he hb => ?_, fun d hd => ?_, fun j' o' ho' hj d hd hd' => ?_⟩
  · have := h1 e (by simpa using he)
    simpa [hb] using this
  · rw [hd] at h2
    simpa using h2
  · have := h3 (o', j') (List.mem_zipIdx_iff_getElem?.2 ho')
    simp [hj, hd, hd'] at this
theorem put_tmps (a : Act) (dst : Option Tmp) (v : Value) : (a.put dst v).tmps.size = a.tmps.size ∧ (a.put dst v).defers = a.defers := by
  cases dst <;> simp [Act.put]
theorem put_getD (a : Act) (d t : Nat) (v : Value) : (a.put (some d) v).tmps.getD t undef = if d = t ∧ d < a.tmps.size then v else a.tmps.getD t undef := by
  simp only [Act.put, Array.getD_eq_getD_getElem?, Array.getElem?_setIfInBounds]
  by_cases h : d = t
  · subst h
    by_cases h2 : d < a.tmps.size
    · simp [h2]
    · simp [h2]
  · simp [h]
theorem putAll_eq (vs : Nat → Value) (a' : Act) : ∀ (l : List Oper) (k : Nat) (a : Act), a'.defers = a.defers → a'.tmps.size = a.tmps.size →
    (∀ (j : Nat) (o : Oper) (d : Tmp), l[j]? = some o → o.dst = some d → d < a.tmps.size ∧ a'.tmps.getD d undef = vs (k + j)) →
    (∀ t, (∀ (j : Nat) (o : Oper), l[j]? = some o → o.dst ≠ some t) → a'.tmps.getD t undef = a.tmps.getD t undef) → putAll vs k l a = a' := by
  intro l
  induction l with
  | nil =>
    intro k a hd hs _ ho
    obtain ⟨T, D⟩ := a
    obtain ⟨T', D'⟩ := a'
    simp only at hd hs ho
    subst hd
    have : T = T' := by
      apply Array.ext hs.symm
      intro i h1 h2
      have := ho i (by simp)
      simpa [Array.getD_eq_getD_getElem?, h1, h2] using this.symm
    subst this
    rfl
  | cons o l ih =>
    intro k a hd hs hv ho
    have hp := put_tmps a o.dst (vs k)
    refine ih (k + 1) (a.put o.dst (vs k)) (hd.trans hp.2.symm) (hs.trans hp.1.symm) (fun j o' d h1 h2 => ?_) (fun t ht => ?_)
    · have := hv (j + 1) o' d (by simpa using h1) h2
      exact ⟨hp.1 ▸ this.1, by rw [this.2, show k + (j + 1) = k + 1 + j by omega]⟩
    · by_cases hot : o.dst = some t
      · have := hv 0 o t (by simp) hot
        rw [hot, put_getD, if_pos ⟨rfl, this.1⟩, this.2]
        rfl
      · rw [ho t (fun j o' h => by
          cases j with
          | zero => simp at h; subst h; exact hot
          | succ j => exact ht j o' (by simpa using h))]
        cases hdst : o.dst with
        | none => rfl
        | some d => rw [put_getD, if_neg (fun h => hot (by rw [hdst, h.1]))]
theorem wp_one {P : Program} {ops : Array Oper} {o : Oper} {a' : Act} {w' : World} {Q1 Q : Exit → Act → World → Prop} {K : Act → World → Prop} (hn : ∀ x a w, Q1 x a w → x = .normal ∧ a.defers = a'.defers)
    (hk : ∀ v w'', Q1 .normal (a'.put o.dst v) w'' → K (a'.put o.dst v) w'') (h : wpList P ops Q1 [o] a' w') :
    if Region.wanted o (yielded ops a'.tmps) then o.wp P a' w' K Q ∨ (o.asks P a' w' ∧ LetsOut Q) else K (a'.put o.dst undef) w' := by
  have hlo : ¬ LetsOut Q1 := fun ⟨a, w, h⟩ => by have := (hn _ _ _ h).1; cases this
  simp only [wpList] at h
  split
  · rename_i hw
    rw [if_pos hw] at h
    rcases h with h | h
    case inr => exact absurd h.2 hlo
    refine .inl ?_
    unfold Oper.wp at *
    generalize (execOp a'.eval o).run P w' = r at *
    cases r with
    | ok n w1 =>
      cases n <;> simp only [Oper.upon] at h ⊢
      case value v => exact hk v w1 h
      case skip => exact hk undef w1 h
      case defer d =>
        have := (hn _ _ _ h).2
        rw [(put_tmps _ _ _).2] at this
        have := congrArg List.length this
        simp at this
      case enter f args =>
        refine Calls.mono h fun e w2 he => ?_
        cases e with
        | returned v => exact hk v w2 he
        | panicked c => have := (hn _ _ _ he).1; cases this
        | outgrown => exact absurd he hlo
      case row row args => exact Rows.mono h fun v w2 he => hk v w2 he
    | halt x w1 =>
      cases x <;> simp only [Oper.upon] at h ⊢
      case panic v => have := (hn _ _ _ h).1; cases this
  · rename_i hw
    rw [if_neg hw] at h
    exact hk undef w' h
def factEdges (R : Nat → Value → World → Prop) (vs : Nat → Value) (w : World) : List Edge → Prop
  | [] => True
  | e :: es => (Region.binds .any e = true → R e.on (vs e.on) w) ∧ factEdges R vs w es
theorem factEdges_of {R : Nat → Value → World → Prop} {vs : Nat → Value} {w : World} : ∀ {l : List Edge}, (∀ e ∈ l, Region.binds .any e = true → R e.on (vs e.on) w) → factEdges R vs w l
  | [], _ => trivial
  | e :: l, h => ⟨h e (by simp), factEdges_of fun e' he' => h e' (by simp [he'])⟩
def factSteps (S : Nat → Oper → Prop) : Nat → List Oper → Prop
  | _, [] => True
  | k, o :: l => S k o ∧ factSteps S (k + 1) l
theorem factSteps_at {S : Nat → Oper → Prop} : ∀ {l : List Oper} {k : Nat}, factSteps S k l → ∀ (j : Nat) (o : Oper), l[j]? = some o → S (k + j) o
  | [], _, _, j, o, h => by simp at h
  | o' :: l, k, hs, 0, o, h => by simp at h; subst h; exact hs.1
  | o' :: l, k, hs, j + 1, o, h => by
    have := factSteps_at hs.2 j o (by simpa using h)
    rwa [show k + (j + 1) = k + 1 + j by omega]
theorem factSteps_of {S : Nat → Oper → Prop} : ∀ {l : List Oper} {k : Nat}, (∀ (j : Nat) (o : Oper), l[j]? = some o → S (k + j) o) → factSteps S k l
  | [], _, _ => trivial
  | o' :: l, k, h => ⟨h 0 o' (by simp), factSteps_of fun j o ho => by
    have := h (j + 1) o (by simpa using ho)
    rwa [show k + (j + 1) = k + 1 + j by omega] at this⟩
structure FInv (l : List Oper) (R : Nat → Value → World → Prop) (Le : World → World → Prop) (a : Act) (w : World) (listed : Array Bool) (a' : Act) (w' : World) : Prop where
  sz : listed.size = l.length
  df : a'.defers = a.defers
  ts : a'.tmps.size = a.tmps.size
  out : ∀ t, (∀ (j : Nat) (o : Oper), l[j]? = some o → o.dst ≠ some t) → a'.tmps.getD t undef = a.tmps.getD t undef
  fact : ∀ (j : Nat) (o : Oper), l[j]? = some o → listed.getD j false = true → R j (oget o a') w'
  bel : Le w w'
def valsOf (l : List Oper) (a' : Act) (j : Nat) : Value := (l[j]?.map fun o => oget o a').getD undef
theorem FInv.put {l : List Oper} {R : Nat → Value → World → Prop} {Le : World → World → Prop} {a a' : Act} {w w' : World} {listed : Array Bool} (hB : factB a.tmps.size l = true) (h : FInv l R Le a w listed a' w') : putAll (valsOf l a') 0 l a = a' :=
  putAll_eq _ _ l 0 a h.df h.ts (fun j o d ho hd => ⟨(factB_spec hB ho).2.1 d hd, by simp [valsOf, ho, oget, hd]⟩) h.out
theorem wp_region_facts {P : Program} {id : Nat} {Q : Exit → Act → World → Prop} {a : Act} {w : World} {l : List Oper} (hm : P.follows .mixedOrders = true) (hB : factB a.tmps.size l = true)
    (Le : World → World → Prop) (hL : ∀ {w1 w2 w3}, Le w1 w2 → Le w2 w3 → Le w1 w3) (h0 : Le w { w with drawn := w.drawn + 1 })
    (R : Nat → Value → World → Prop) (hR : ∀ j v w1 w2, R j v w1 → Le w1 w2 → R j v w2)
    (hst : ∀ (vs : Nat → Value) (w' : World), Le w w' → factSteps (fun j o => factEdges R vs w' o.after.toList →
      wpList P l.toArray (fun x a2 w2 => x = .normal ∧ a2.defers = a.defers ∧ R j (oget o a2) w2 ∧ Le w' w2) [o] (putAll vs 0 l a) w') 0 l)
    (hend : ∀ (vs : Nat → Value) (w' : World), Le w w' → factSteps (fun j _ => R j (vs j) w') 0 l → Q .normal (putAll vs 0 l a) w') : (Code.region id l.toArray true).wp P Q a w := by
  have all_of : ∀ (listed : Array Bool), listed.size = l.length → Region.ready .any l.toArray listed = [] → ∀ j, j < l.length → listed.getD j false = true := by
    intro listed hsz hr j
    induction j using Nat.strongRecOn with
    | _ j ih =>
      intro hj
      cases hc : listed.getD j false with
      | true => rfl
      | false =>
        have ho : l[j]? = some l[j] := List.getElem?_eq_getElem hj
        have : j ∈ Region.ready .any l.toArray listed := mem_ready.2 ⟨by simpa [Array.getD, hsz, hj] using hc, l[j], by simp [ho], fun e he hb => by
          have hlt := (factB_spec hB ho).1 e he hb
          exact ih _ hlt (by omega)⟩
        rw [hr] at this
        cases this
  have fin : ∀ (listed : Array Bool) (a' : Act) (w' : World), FInv l R Le a w listed a' w' → (∀ j, j < l.length → listed.getD j false = true) → Q .normal a' w' := by
    intro listed a' w' hI hall
    rw [← hI.put hB]
    refine hend _ w' hI.bel (factSteps_of fun j o ho => ?_)
    have hj : j < l.length := (List.getElem?_eq_some_iff.1 ho).1
    have := hI.fact j o ho (hall j hj)
    simpa [valsOf, ho] using this
  have main : ∀ (fuel : Nat) (listed : Array Bool) (a' : Act) (w' : World) (u : List Nat), u.length ≤ fuel → (∀ j, j < l.length → listed.getD j false = false → j ∈ u) → FInv l R Le a w listed a' w' → wpAny P .any l.toArray Q fuel listed a' w' := by
    intro fuel
    induction fuel with
    | zero =>
      intro listed a' w' u hu hm hI
      have hu0 : u = [] := List.length_eq_zero_iff.1 (by omega)
      have hall : ∀ j, j < l.length → listed.getD j false = true := fun j hj => by
        cases hc : listed.getD j false with
        | true => rfl
        | false => have := hm j hj hc; rw [hu0] at this; cases this
      refine ⟨?_, fin listed a' w' hI hall⟩
      apply List.eq_nil_iff_forall_not_mem.2
      intro j hj
      obtain ⟨h1, o, ho, _⟩ := mem_ready.1 hj
      have hjl : j < l.length := by have := (Array.getElem?_eq_some_iff.1 ho).1; simpa using this
      have h2 := hall j hjl
      have hs := hI.sz
      simp [Array.getD, hs, hjl] at h1 h2
      rw [h1] at h2
      cases h2
    | succ fuel ih =>
      intro listed a' w' u hu hm hI
      refine ⟨fun hr => fin listed a' w' hI (all_of listed hI.sz hr), fun i hi => ?_⟩
      obtain ⟨h1, o, ho, hed⟩ := mem_ready.1 hi
      have ho' : l[i]? = some o := by simpa using ho
      have hil : i < l.length := (List.getElem?_eq_some_iff.1 ho').1
      have hsz := hI.sz
      have hiu : i ∈ u := hm i hil (by simp [Array.getD, hsz, hil] at h1 ⊢; exact h1)
      have hs := factSteps_at (hst (valsOf l a') w' hI.bel) i o ho'
      rw [hI.put hB, Nat.zero_add] at hs
      have hw := hs (factEdges_of fun e he hb => by
        have hlt := (factB_spec hB ho').1 e (by simpa using he) hb
        have hoe : l[e.on]? = some l[e.on] := List.getElem?_eq_getElem (by omega)
        have := hI.fact e.on _ hoe (hed e (by simpa using he) hb)
        simpa [valsOf, hoe] using this)
      have key := wp_one (Q := Q) (K := fun a2 w2 => wpAny P .any l.toArray Q fuel (listed.setIfInBounds i true) a2 w2) (fun x a2 w2 h => ⟨h.1, h.2.1.trans hI.df.symm⟩) (fun v w2 h => by
        obtain ⟨_, _, hr, hle⟩ := h
        refine ih _ _ w2 (u.erase i) (by rw [List.length_erase_of_mem hiu]; omega) (fun j hj hc => ?_) ⟨?_, ?_, ?_, fun t ht => ?_, fun j oj hoj hc => ?_, hL hI.bel hle⟩
        · by_cases hij : i = j
          · subst hij
            simp [Array.getD, hsz, hil] at hc
          · rw [getD_set_ne false hij] at hc
            exact (List.mem_erase_of_ne (Ne.symm hij)).2 (hm j hj hc)
        · simpa using hsz
        · exact (put_tmps _ _ _).2.trans hI.df
        · exact (put_tmps _ _ _).1.trans hI.ts
        · rw [← hI.out t ht]
          cases hd : o.dst with
          | none => rfl
          | some d => rw [put_getD, if_neg (fun h => ht i o ho' (by rw [hd, h.1]))]
        · by_cases hij : i = j
          · subst hij
            rw [ho'] at hoj
            cases hoj
            exact hr
          · rw [getD_set_ne false hij] at hc
            have := hR j _ w' w2 (hI.fact j oj hoj hc) hle
            have he : oget oj (a'.put o.dst v) = oget oj a' := by
              cases hd : o.dst with
              | none => rfl
              | some d =>
                unfold oget
                cases hdj : oj.dst with
                | none => rfl
                | some dj =>
                  simp only [Option.map_some, Option.getD_some]
                  rw [put_getD, if_neg]
                  rintro ⟨rfl, _⟩
                  exact (factB_spec hB ho').2.2 j oj hoj hij _ hd hdj
            rw [he]
            exact this) hw
      unfold wpOp
      simp only [ho]
      exact key
  refine wp_region_any hm ?_
  have hf : ∀ j, (Array.replicate l.toArray.size false).getD j false = false := fun j => by
    simp only [Array.getD]
    split <;> simp
  exact main _ _ a _ (List.range l.length) (by simp) (fun j hj _ => List.mem_range.2 hj) ⟨by simp, rfl, rfl, fun _ _ => rfl, fun j o _ h => (by rw [hf j] at h; cases h), h0⟩
/-- What is known of a value: it is one; or it leads to a block of which some cells are known; or whatever later worlds keep. -/
inductive Fc where
  | is (u : Value)
  | mem (F : Nat → Value) (cs : List (Nat × Value))
  | any (p : Value → World → Prop) (h : ∀ v w1 w2, p v w1 → Below w1.heap.size w1 w2 → p v w2)
def cellsAt (w : World) (g : Nat) : List (Nat × Value) → Prop
  | [] => True
  | (o, u) :: l => w.cell? ⟨g, o, none⟩ = some u ∧ cellsAt w g l
theorem cellsAt_keep {w1 w2 : World} (hb : Below w1.heap.size w1 w2) {g : Nat} : ∀ {l : List (Nat × Value)}, cellsAt w1 g l → cellsAt w2 g l
  | [], _ => trivial
  | (o, u) :: l, h => ⟨(hb.cell (p := ⟨g, o, none⟩) (World.block_lt_of_cell? w1 ⟨g, o, none⟩ h.1)).trans h.1, cellsAt_keep hb h.2⟩
def Fc.holds : Fc → Value → World → Prop
  | .is u, v, _ => v = u
  | .mem F cs, v, w => ∃ g, v = F g ∧ cellsAt w g cs
  | .any p _, v, w => p v w
theorem Fc.keep (f : Fc) {v : Value} {w1 w2 : World} (h : f.holds v w1) (hb : Below w1.heap.size w1 w2) : f.holds v w2 := by
  cases f with
  | is u => exact h
  | mem F cs =>
    obtain ⟨g, rfl, hc⟩ := h
    exact ⟨g, rfl, cellsAt_keep hb hc⟩
  | any p hp => exact hp _ _ _ h hb
theorem fc_below {w1 w2 w3 : World} (h1 : Below w1.heap.size w1 w2) (h2 : Below w2.heap.size w2 w3) : Below w1.heap.size w1 w3 := h1.trans (h2.mono h1.size)
/-- The law at facts of these kinds, all in worlds below as the first one. -/
theorem wp_region_fc {P : Program} {id : Nat} {Q : Exit → Act → World → Prop} {a : Act} {w : World} {l : List Oper} (hm : P.follows .mixedOrders = true) (hB : factB a.tmps.size l = true) (fs : List Fc)
    (hst : ∀ (vs : Nat → Value) (w' : World), Below w.heap.size w w' → factSteps (fun j o => factEdges (fun j v w => (fs.getD j (.is undef)).holds v w) vs w' o.after.toList →
      wpList P l.toArray (fun x a2 w2 => x = .normal ∧ a2.defers = a.defers ∧ (fs.getD j (.is undef)).holds (oget o a2) w2 ∧ Below w'.heap.size w' w2) [o] (putAll vs 0 l a) w') 0 l)
    (hend : ∀ (vs : Nat → Value) (w' : World), Below w.heap.size w w' → factSteps (fun j _ => (fs.getD j (.is undef)).holds (vs j) w') 0 l → Q .normal (putAll vs 0 l a) w') : (Code.region id l.toArray true).wp P Q a w :=
  wp_region_facts hm hB (fun w1 w2 => Below w1.heap.size w1 w2) fc_below ⟨rfl, rfl, rfl, Nat.le_refl _, fun _ _ => rfl⟩ (fun j v w => (fs.getD j (.is undef)).holds v w) (fun j v w1 w2 h hb => Fc.keep _ h hb) hst hend
end Go.Proofs.YtlnbghhhifnbdaaDoor

/- The walk of the law IrChecks: it returns true. Conditions: the lists read as the given ones; the listed variable holds what the program's text lays in it. -/
namespace Go.Proofs.YtlnbghhhifnbdaaDoor
open Go.RowKit Go.Proofs.YtlnbghhhifnbdaaDoorW.PrintWords Go.Proofs.YtlnbghhhifnbdaaDoorW.PrintLast Go.Proofs.YtlnbghhhifnbdaaDoorW.PrintMore Go.Proofs.YtlnbghhhifnbdaaDoor.PIrTexts
set_option linter.unusedVariables false
set_option linter.unusedSimpArgs false

/-- A block of the document's, as an argument. -/
structure ArgB (w : World) (A0 A1 A2 : Option Addr) (c0 c1 c2 : Nat) (pcs : List Int) (ops : List S38) (exits : List S59) : Prop where
  C0 : (Kd.int .u32).C w A0 pcs.length pcs
  C1 : k38.C w A1 ops.length ops
  C2 : k59.C w A2 exits.length exits
  l0 : pcs.length ≤ c0
  l1 : ops.length ≤ c1
  l2 : exits.length ≤ c2
theorem ArgB.below {w w1 : World} {A0 A1 A2 : Option Addr} {c0 c1 c2 : Nat} {pcs : List Int} {ops : List S38} {exits : List S59} (h : ArgB w A0 A1 A2 c0 c1 c2 pcs ops exits) (hb : Below w.heap.size w w1) : ArgB w1 A0 A1 A2 c0 c1 c2 pcs ops exits :=
  ⟨Kd.C_below h.C0 hb, Kd.C_below h.C1 hb, Kd.C_below h.C2 hb, h.l0, h.l1, h.l2⟩
theorem light_c (A0 A1 A2 : Option Addr) (c0 c1 c2 : Nat) (last : Int) (pcs : List Int) (ops : List S38) (exits : List S59) (w : World) (h : ArgB w A0 A1 A2 c0 c1 c2 pcs ops exits) :
    Calls Tryd.prog 7 #[.agg #[.slice A0 pcs.length c0, .slice A1 ops.length c1, .slice A2 exits.length c2, .int .i64 last]] w fun e w' => e = .returned (.bool (lightB pcs ops exits)) ∧ Below w.heap.size w w' :=
  mimesislaw23_light.calls 400 A0 c0 pcs A1 c1 ops A2 c2 exits last _ w h.C0 h.l0 h.C1 h.l1 h.C2 h.l2 (light_f pcs ops exits last)
theorem rcheck_c (A0 A1 A2 : Option Addr) (c0 c1 c2 : Nat) (last : Int) (pcs : List Int) (ops : List S38) (exits : List S59) (hL : lightB pcs ops exits = true) (w : World) (h : ArgB w A0 A1 A2 c0 c1 c2 pcs ops exits) :
    Calls Tryd.prog 11 #[.agg #[.slice A0 pcs.length c0, .slice A1 ops.length c1, .slice A2 exits.length c2, .int .i64 last]] w fun e w' => e = .returned (.int .i64 (checkB (blkOf pcs ops exits last))) ∧ Below w.heap.size w w' :=
  mimesisref23_Check.calls 1000 A0 c0 pcs A1 c1 ops A2 c2 exits last _ w h.C0 h.l0 h.C1 h.l1 h.C2 h.l2 (check_f pcs ops exits last (light_maps pcs ops exits hL).2.2.2.2)
theorem own_a (A0 A1 A2 : Option Addr) (c0 c1 c2 : Nat) (last : Int) (pcs : List Int) (ops : List S38) (exits : List S59) (hL : lightB pcs ops exits = true) (w : World) (h : ArgB w A0 A1 A2 c0 c1 c2 pcs ops exits) :
    Calls Tryd.prog 10 #[.agg #[.slice A0 pcs.length c0, .slice A1 ops.length c1, .slice A2 exits.length c2, .int .i64 last]] w fun e w' => e = .returned (.pointer (some ⟨w.heap.size + 1, 0, none⟩)) ∧ BlockAt w' (w.heap.size + 1) (blkOf pcs ops exits last) ∧ Below w.heap.size w w' := by
  obtain ⟨a, b, c, d, -⟩ := light_maps pcs ops exits hL
  exact own_c A0 A1 A2 _ _ _ c0 c1 c2 last pcs ops exits rfl rfl rfl (by omega) (by omega) (fun x hx => by have := d x hx; omega) w h.C0 h.C1 h.C2
theorem blk_maps (pcs : List Int) (ops : List S38) (exits : List S59) (last : Int) (hL : lightB pcs ops exits = true) : Maps (blkOf pcs ops exits last) ∧ (blkOf pcs ops exits last).pcs.length ≤ 1000000 ∧ (blkOf pcs ops exits last).ops.length ≤ 1000000 ∧ (blkOf pcs ops exits last).exits.length ≤ 1000000 := by
  obtain ⟨a, b, c, d, e⟩ := light_maps pcs ops exits hL
  refine ⟨fun n => ?_, ?_, ?_, ?_⟩
  · have e1 : (blkOf pcs ops exits last).exits = exits.map exitOf := rfl
    rw [e1, rd_exits]
    have := e n
    show ((rd_T59 exits n).f4.map valOf).length ≤ 1000000
    rw [List.length_map]
    omega
  · show pcs.length ≤ 1000000; omega
  · show (ops.map opOf).length ≤ 1000000; rw [List.length_map]; omega
  · show (exits.map exitOf).length ≤ 1000000; rw [List.length_map]; omega
/-- A value that points to a block that reads as the given one. -/
def PtrB (B : BlkV) (v : Value) (w : World) : Prop := ∃ g, v = .pointer (some ⟨g, 0, none⟩) ∧ BlockAt w g B
theorem PtrB.keep {B : BlkV} (v : Value) (w1 w2 : World) (h : PtrB B v w1) (hb : Below w1.heap.size w1 w2) : PtrB B v w2 := by
  obtain ⟨g, hv, hB⟩ := h
  exact ⟨g, hv, hB.below hb⟩
end Go.Proofs.YtlnbghhhifnbdaaDoor

/- Proved: how a block of the document's, as an argument of a row, reads: its lists, and that its numbers are of their kinds. Conditions: it is an argument of its type. -/
namespace Go.Proofs.YtlnbghhhifnbdaaDoor
open Go.RowKit Go.Proofs.YtlnbghhhifnbdaaDoorW.PrintWords Go.Proofs.YtlnbghhhifnbdaaDoorW.PrintLast Go.Proofs.YtlnbghhhifnbdaaDoorW.PrintMore Go.Proofs.YtlnbghhhifnbdaaDoor.PIrTexts
open Go.ChangeShapes Go.WideShapes Go.ChangeAt Go.Deep
set_option linter.unusedVariables false
set_option linter.unusedSimpArgs false
set_option maxRecDepth 100000

section
variable {H : Type} {enc : TypeId × Value → H} {w : World} {base : Nat} {sp : Nat → Bool} {held : Bool}
theorem rb_i64 {x : Int} (h : (Lit.int .i64 x).wf = true) : -9223372036854775808 ≤ x ∧ x ≤ 9223372036854775807 := by
  have h0 : IntKind.i64.min = -9223372036854775808 := rfl
  have h1 : IntKind.i64.max = 9223372036854775807 := rfl
  simp only [Lit.wf, Bool.and_eq_true, decide_eq_true_eq] at h
  omega
theorem rb_u32 {x : Int} (h : (Lit.int .u32 x).wf = true) : 0 ≤ x ∧ x ≤ 4294967295 := by
  have h0 : IntKind.u32.min = 0 := rfl
  have h1 : IntKind.u32.max = 4294967295 := rfl
  simp only [Lit.wf, Bool.and_eq_true, decide_eq_true_eq] at h
  omega
/-- A slice reads as a list, if its elements read as elements. -/
theorem slice_of {α : Type} [Inhabited α] {d : Kd α} {good : α → Prop} {t e : TypeId} {fuel : Nat} {cs : List Value} {x : DataW H × List MemPlace} (ht : Tryd.prog.underlying t = some (.slice e)) (hz : Tryd.prog.cellsOf e = d.sz)
    (hE : ∀ (m : Nat) (cs : List Value) (x : DataW H × List MemPlace), DataW.trod enc Tryd.prog w base sp held m e cs = some x → ∃ y : α, d.K w y cs ∧ good y)
    (h : DataW.trod enc Tryd.prog w base sp held fuel t cs = some x) : ∃ (a : Option Addr) (cap : Nat) (xs : List α), cs = [.slice a xs.length cap] ∧ d.C w a xs.length xs ∧ xs.length ≤ cap ∧ ∀ y ∈ xs, good y := by
  rcases open_slice ht h with ⟨hcs, _⟩ | ⟨ad, l, c, m, n, D, Pl, hcs, _, hl, hm, hmm, _, hx⟩
  · exact ⟨none, 0, [], hcs, Kd.C_nil _ _, Nat.le_refl _, fun y hy => by cases hy⟩
  · have hle : l ≤ m := by rw [hmm]; split <;> omega
    obtain ⟨F, hF⟩ := choose_lt (n := l) (p := fun i (y : α) => ∃ cs', w.cells? base (ad.add (i * d.sz)) d.sz = some cs' ∧ d.K w y cs' ∧ good y) (fun i hi => by
      obtain ⟨cs', h1, h2⟩ := hx i (by omega)
      rw [hz] at h1
      obtain ⟨y, hy, hg⟩ := hE _ _ _ h2
      exact ⟨y, cs', h1, hy, hg⟩)
    refine ⟨some ad, c, (List.range l).map F, by simpa using hcs, ⟨rfl, by simp only [maxLen] at hm; simp; omega, fun _ => ⟨ad, rfl, fun j y hj => ?_⟩⟩, by simpa using hl, fun y hy => ?_⟩
    · have hjl : j < l := by have := (List.getElem?_eq_some_iff.1 hj).1; simpa using this
      have hyj : y = F j := by rw [List.getElem?_map, List.getElem?_range hjl] at hj; simpa using hj.symm
      subst hyj
      obtain ⟨cs', h1, h2, _⟩ := hF j hjl
      refine ⟨cs', d.K_len h2, h2, fun i u hu => ?_⟩
      have hi : i < d.sz := by have := (List.getElem?_eq_some_iff.1 hu).1; rw [d.K_len h2] at this; exact this
      have := (World.cells?_some h1).2.2 i hi
      rw [Go.Deep.add_add] at this
      exact this.trans hu
    · obtain ⟨j, hj, rfl⟩ := List.mem_map.1 hy
      obtain ⟨cs', h1, h2, h3⟩ := hF j (List.mem_range.1 hj)
      exact h3
theorem rb_int {t : TypeId} {m : Nat} {c : List Value} {x : DataW H × List MemPlace} (ht : Tryd.prog.underlying t = some (.int .i64)) (h : DataW.trod enc Tryd.prog w base sp held m t c = some x) : ∃ z : Int, c = [.int .i64 z] ∧ I64 z := by
  obtain ⟨z, hc, _, hw⟩ := DataW.trod_int ht h
  exact ⟨z, hc, rb_i64 hw⟩
theorem rb_word {t : TypeId} {m : Nat} {c : List Value} {x : DataW H × List MemPlace} (ht : Tryd.prog.underlying t = some (.int .u32)) (h : DataW.trod enc Tryd.prog w base sp held m t c = some x) : ∃ z : Int, c = [.int .u32 z] ∧ 0 ≤ z ∧ z ≤ 4294967295 := by
  obtain ⟨z, hc, _, hw⟩ := DataW.trod_int ht h
  exact ⟨z, hc, rb_u32 hw⟩
theorem rb_op {m : Nat} {cs : List Value} {x : DataW H × List MemPlace} (h : DataW.trod enc Tryd.prog w base sp held m 38 cs = some x) : ∃ y : S38, k38.K w y cs ∧ OpI (opOf y) := by
  obtain ⟨xs, m', -, -, hn, hl, hx⟩ := DataW.trod_struct Tryd.underlying38 h
  rw [show Tryd.prog.cellsOf 38 = 6 from by kernel_rfl] at hn
  match cs, hn with
  | [c0, c1, c2, c3, c4, c5], _ =>
  match xs, hl with
  | [y0, y1, y2, y3, y4, y5], _ =>
  have z1 : Tryd.prog.cellsOf 3 = 1 := by kernel_rfl
  have z3 : Tryd.prog.cellsOf 36 = 1 := by kernel_rfl
  obtain ⟨f0, e0, w0⟩ := rb_int Tryd.underlying3 (c := [c0]) (by have := hx 0 _ rfl; simpa [z1, z3] using this)
  obtain ⟨f1, e1, w1⟩ := rb_int Tryd.underlying3 (c := [c1]) (by have := hx 1 _ rfl; simpa [z1, z3] using this)
  obtain ⟨f2, e2, w2⟩ := rb_int Tryd.underlying3 (c := [c2]) (by have := hx 2 _ rfl; simpa [z1, z3] using this)
  obtain ⟨f3, e3, w3⟩ := rb_word Tryd.underlying36 (c := [c3]) (by have := hx 3 _ rfl; simpa [z1, z3] using this)
  obtain ⟨f4, e4, w4⟩ := rb_int Tryd.underlying3 (c := [c4]) (by have := hx 4 _ rfl; simpa [z1, z3] using this)
  obtain ⟨f5, e5, w5⟩ := rb_int Tryd.underlying3 (c := [c5]) (by have := hx 5 _ rfl; simpa [z1, z3] using this)
  simp only [List.cons.injEq, and_true] at e0 e1 e2 e3 e4 e5
  subst e0 e1 e2 e3 e4 e5
  exact ⟨⟨f0, f1, f2, f3, f4, f5⟩, k38_mk w ⟨f0, f1, f2, f3, f4, f5⟩, w0, w1, w2, w3, w4, w5⟩
theorem rb_val {m : Nat} {cs : List Value} {x : DataW H × List MemPlace} (h : DataW.trod enc Tryd.prog w base sp held m 62 cs = some x) : ∃ y : S62, k62.K w y cs ∧ (I64 y.f0 ∧ I64 y.f1) := by
  obtain ⟨xs, m', -, -, hn, hl, hx⟩ := DataW.trod_struct Tryd.underlying62 h
  rw [show Tryd.prog.cellsOf 62 = 2 from by kernel_rfl] at hn
  match cs, hn with
  | [c0, c1], _ =>
  match xs, hl with
  | [y0, y1], _ =>
  have z1 : Tryd.prog.cellsOf 3 = 1 := by kernel_rfl
  obtain ⟨f0, e0, w0⟩ := rb_int Tryd.underlying3 (c := [c0]) (by have := hx 0 _ rfl; simpa [z1] using this)
  obtain ⟨f1, e1, w1⟩ := rb_int Tryd.underlying3 (c := [c1]) (by have := hx 1 _ rfl; simpa [z1] using this)
  simp only [List.cons.injEq, and_true] at e0 e1
  subst e0 e1
  exact ⟨⟨f0, f1⟩, k62_mk w ⟨f0, f1⟩, w0, w1⟩
instance : Inhabited S38 := ⟨z38⟩
instance : Inhabited S62 := ⟨z62⟩
instance : Inhabited S59 := ⟨z59⟩
theorem rb_exit {m : Nat} {cs : List Value} {x : DataW H × List MemPlace} (h : DataW.trod enc Tryd.prog w base sp held m 59 cs = some x) : ∃ y : S59, k59.K w y cs ∧ ExI (exitOf y) := by
  obtain ⟨xs, m', -, -, hn, hl, hx⟩ := DataW.trod_struct Tryd.underlying59 h
  rw [show Tryd.prog.cellsOf 59 = 5 from by kernel_rfl] at hn
  match cs, hn with
  | [c0, c1, c2, c3, c4], _ =>
  match xs, hl with
  | [y0, y1, y2, y3, y4], _ =>
  have z1 : Tryd.prog.cellsOf 3 = 1 := by kernel_rfl
  have z3 : Tryd.prog.cellsOf 36 = 1 := by kernel_rfl
  have z4 : Tryd.prog.cellsOf 57 = 1 := by kernel_rfl
  obtain ⟨f0, e0, w0⟩ := rb_int Tryd.underlying3 (c := [c0]) (by have := hx 0 _ rfl; simpa [z1, z3, z4] using this)
  obtain ⟨f1, e1, w1⟩ := rb_word Tryd.underlying36 (c := [c1]) (by have := hx 1 _ rfl; simpa [z1, z3, z4] using this)
  obtain ⟨f2, e2, w2⟩ := rb_int Tryd.underlying3 (c := [c2]) (by have := hx 2 _ rfl; simpa [z1, z3, z4] using this)
  obtain ⟨f3, e3, w3⟩ := rb_int Tryd.underlying3 (c := [c3]) (by have := hx 3 _ rfl; simpa [z1, z3, z4] using this)
  obtain ⟨A4, cap, f4, e4, hC, hl4, w4⟩ := slice_of (d := k62) (good := fun y => I64 y.f0 ∧ I64 y.f1) Tryd.underlying57 (by kernel_rfl) (fun _ _ _ h => rb_val h) (cs := [c4]) (by have := hx 4 _ rfl; simpa [z1, z3, z4] using this)
  simp only [List.cons.injEq, and_true] at e0 e1 e2 e3 e4
  subst e0 e1 e2 e3 e4
  refine ⟨⟨f0, f1, f2, f3, f4⟩, k59_mk w ⟨f0, f1, f2, f3, f4⟩ hl4 hC, w0, w1, w2, w3, fun v hv => ?_⟩
  obtain ⟨y, hy, rfl⟩ := List.mem_map.1 hv
  exact w4 y hy
theorem open_blk {r : Reach} {b0 : Nat} {v : Value} {d : DataW H} {p : List MemPlace} (hv : Value.okWide Tryd.prog w r b0 26 v) (h : DataW.Trod enc Tryd.prog w base sp held 26 v d p) :
    ∃ (A0 A1 A2 : Option Addr) (c0 c1 c2 : Nat) (last : Int) (pcs : List Int) (ops : List S38) (exits : List S59), v = .agg #[.slice A0 pcs.length c0, .slice A1 ops.length c1, .slice A2 exits.length c2, .int .i64 last] ∧ ArgB w A0 A1 A2 c0 c1 c2 pcs ops exits ∧ BlkI (blkOf pcs ops exits last) := by
  obtain ⟨cs, rfl, -⟩ := okWide_struct Tryd.underlying26 hv
  obtain ⟨l⟩ := cs
  obtain ⟨fuel, hf⟩ := h
  obtain ⟨xs, m', -, -, hn, hl, hx⟩ := DataW.trod_struct Tryd.underlying26 hf
  rw [show Tryd.prog.cellsOf 26 = 4 from by kernel_rfl] at hn
  simp only [Value.cells] at hn hx
  match l, hn with
  | [c0, c1, c2, c3], _ =>
  match xs, hl with
  | [y0, y1, y2, y3], _ =>
  have z1 : Tryd.prog.cellsOf 3 = 1 := by kernel_rfl
  have z2 : Tryd.prog.cellsOf 22 = 1 := by kernel_rfl
  have z3 : Tryd.prog.cellsOf 23 = 1 := by kernel_rfl
  have z4 : Tryd.prog.cellsOf 24 = 1 := by kernel_rfl
  obtain ⟨A0, p0, pcs, e0, hC0, hl0, w0⟩ := slice_of (d := Kd.int .u32) (good := fun y => 0 ≤ y ∧ y ≤ 4294967295) Tryd.underlying22 (by kernel_rfl) (fun _ _ _ h => by obtain ⟨z, hz, hw⟩ := rb_word Tryd.underlying36 h; exact ⟨z, hz, hw⟩) (cs := [c0]) (by have := hx 0 _ rfl; simpa [z1, z2, z3, z4] using this)
  obtain ⟨A1, p1, ops, e1, hC1, hl1, w1⟩ := slice_of (d := k38) (good := fun y => OpI (opOf y)) Tryd.underlying23 (by kernel_rfl) (fun _ _ _ h => rb_op h) (cs := [c1]) (by have := hx 1 _ rfl; simpa [z1, z2, z3, z4] using this)
  obtain ⟨A2, p2, exits, e2, hC2, hl2, w2⟩ := slice_of (d := k59) (good := fun y => ExI (exitOf y)) Tryd.underlying24 (by kernel_rfl) (fun _ _ _ h => rb_exit h) (cs := [c2]) (by have := hx 2 _ rfl; simpa [z1, z2, z3, z4] using this)
  obtain ⟨last, e3, w3⟩ := rb_int Tryd.underlying3 (c := [c3]) (by have := hx 3 _ rfl; simpa [z1, z2, z3, z4] using this)
  simp only [List.cons.injEq, and_true] at e0 e1 e2 e3
  subst e0 e1 e2 e3
  refine ⟨A0, A1, A2, p0, p1, p2, last, pcs, ops, exits, rfl, ⟨hC0, hC1, hC2, hl0, hl1, hl2⟩, ⟨fun o ho => ?_, fun e he => ?_, w3⟩⟩
  · obtain ⟨y, hy, rfl⟩ := List.mem_map.1 ho
    exact w1 y hy
  · obtain ⟨y, hy, rfl⟩ := List.mem_map.1 he
    exact w2 y hy
end
end Go.Proofs.YtlnbghhhifnbdaaDoor
