/- Contract of the law's Own: it answers a block of the program's that reads as the given one. Conditions: the lists read as the given ones, and have at most a million entries. -/
import Derived.Test.YthjgakoofmmloaaZYLd
import Derived.WalkSpells
import Derived.StillTactics
import Derived.Laws.Pointers
import Derived.Deep.RegionHeld3
import Derived.Deep.RegionWith
import Derived.Deep.QuietTactic
import Derived.Deep.LoopGhost
import Derived.BigQuiet
import Derived.KernelRfl
import Derived.Outline
import Derived.Lib.Hide
import Derived.WalkKit
import Derived.WalkSmall
import Derived.Below
import Derived.Test.YthjgakoofmmloaaZPNumberDoesx0
import Derived.Test.YthjgakoofmmloaaZPNumberDoesx8
import Derived.Test.YthjgakoofmmloaaZPNumberDoesx9
import Derived.Test.YthjgakoofmmloaaZPNumberDoesx10
import Derived.Deep.RegionLaw
namespace Go.Proofs.Ythjgakoofmmloaa
open Go.RowKit
set_option linter.unusedVariables false
set_option linter.unusedSimpArgs false

theorem bal {w W : World} (h : Below w.heap.size w W) (o : Obj) : Below w.heap.size w (W.alloc o) := h.alloc h.size o
theorem bset {w W : World} (h : Below w.heap.size w W) {p : Addr} (hp : w.heap.size ≤ p.block) (u : Value) : Below w.heap.size w (W.setCell p u) := h.setCell hp u
theorem bdn {w W : World} (h : Below w.heap.size w W) (n : Nat) : Below w.heap.size w (W.drewN n) := below_drewN h n
theorem bthen {w W V : World} (h : Below w.heap.size w W) (k : Below W.heap.size W V) : Below w.heap.size w V := h.trans (k.mono h.size)

theorem ret_b {a b : Bool} (h : a = b) : Ending.returned (.bool a) = .returned (.bool b) := by rw [h]
theorem nb {a b : Int} (h : ¬ a = b) : (a == b) = false := beq_eq_false_iff_ne.mpr h
end Go.Proofs.Ythjgakoofmmloaa

namespace Go.Proofs.Ythjgakoofmmloaa
open Go.RowKit
set_option linter.unusedVariables false
set_option linter.unusedSimpArgs false

theorem qF {P : Program} {id : Nat} {Q : Exit → Act → World → Prop} {a : Act} {w : World} {l : List Oper} (hm : P.follows .mixedOrders = true) (hB : Region.lexB .any l.toArray = true)
  (h : ∀ (S : Type) (_ : Nonempty S) (F : S → World), (∀ s, Below w.heap.size w (F s)) → (∀ s v, Below (F s).heap.size (F s) v → ∃ s', v = F s') →
   wpQuiet P l.toArray (fun w' => ∃ s, w' = F s) (fun a' => ∀ w', (∃ s, w' = F s) → Q .normal a' w') l a) : (Code.region id l.toArray true).wp P Q a w := by
 have hs : Below w.heap.size w { w with drawn := w.drawn + 1 } := ⟨rfl, rfl, rfl, Nat.le_refl _, fun _ _ => rfl⟩
 refine wp_region_quiet (C := fun w' => ∃ s : { w' // Below w.heap.size w w' }, w' = s.val) hm hB ⟨⟨_, hs⟩, rfl⟩ ?_
 have := h { w' // Below w.heap.size w w' } ⟨⟨_, hs⟩⟩ Subtype.val (fun s => s.property) (fun s v hv => ⟨⟨v, s.property.trans (hv.mono s.property.size)⟩, rfl⟩)
 simpa using this
theorem fcell {w : World} {S : Type} {F : S → World} (hF : ∀ s, Below w.heap.size w (F s)) {b o : Nat} {v : Value} (hv : w.cell? ⟨b, o, none⟩ = some v) : ∀ s, (F s).cell? ⟨b, o, none⟩ = some v := fun s =>
 ((hF s).cell (p := ⟨b, o, none⟩) (World.block_lt_of_cell? w ⟨b, o, none⟩ hv)).trans hv
theorem qbelow {P : Program} {f : FuncId} {args : Array Value} {S : Type} {F : S → World} (hS : ∀ s v, Below (F s).heap.size (F s) v → ∃ s', v = F s') {s : S} {v : Value} (h : Calls P f args (F s) fun e w' => e = .returned v ∧ Below (F s).heap.size (F s) w') : Calls P f args (F s) fun e w' => e = .returned v ∧ ∃ s', w' = F s' :=
 h.mono fun _ _ h => ⟨h.1, hS _ _ h.2⟩
end Go.Proofs.Ythjgakoofmmloaa

namespace Go.Proofs.Ythjgakoofmmloaa
open Go.RowKit Go.Proofs.YthjgakoofmmloaaW.PrintWords Go.Proofs.Ythjgakoofmmloaa.PNumberDoes
set_option linter.unusedVariables false
set_option linter.unusedSimpArgs false

structure BlkV where
 pcs : List Int
 ops : List S67
 exits : List S73
 last : Int
structure BlockAt (w : World) (g : Nat) (B : BlkV) : Prop where
 pcs : ∃ A c, w.cell? ⟨g, 0, none⟩ = some (.slice A B.pcs.length c) ∧ (Kd.int .u32).C w A B.pcs.length B.pcs
 ops : ∃ A c, w.cell? ⟨g, 1, none⟩ = some (.slice A B.ops.length c) ∧ k67.C w A B.ops.length B.ops
 exits : ∃ A c, w.cell? ⟨g, 2, none⟩ = some (.slice A B.exits.length c) ∧ k73.C w A B.exits.length B.exits
 last : w.cell? ⟨g, 3, none⟩ = some (.int .i64 B.last)
theorem cellk {w w1 : World} (h : Below w.heap.size w w1) {a : Addr} {v : Value} (hc : w.cell? a = some v) : w1.cell? a = some v := (h.cell (World.block_lt_of_cell? w a hc)).trans hc
theorem BlockAt.below {w w1 : World} {g : Nat} {B : BlkV} (h : BlockAt w g B) (hb : Below w.heap.size w w1) : BlockAt w1 g B := by
 obtain ⟨⟨A0, c0, h0, k0⟩, ⟨A1, c1, h1, k1⟩, ⟨A2, c2, h2, k2⟩, h3⟩ := h
 exact ⟨⟨A0, c0, cellk hb h0, Kd.qn k0 hb⟩, ⟨A1, c1, cellk hb h1, Kd.qn k1 hb⟩, ⟨A2, c2, cellk hb h2, Kd.qn k2 hb⟩, cellk hb h3⟩
def valuedB (code : Int) : Bool := decide (1 ≤ code) && decide (code ≤ 4)
theorem valued_c (code : Int) (w : World) : Calls Try.prog 151 #[.int .i64 code] w fun e w' => e = .returned (.bool (valuedB code)) ∧ w = w' := by
 rcases (by omega : code < 1 ∨ (1 ≤ code ∧ code ≤ 4) ∨ 4 < code) with h | ⟨h, h'⟩ | h
 ·go_enter Try.func151, Try.ntmps151
  go_wp2
  go_ret
  exact ⟨ret_b (by simp [valuedB]; omega), rfl⟩
 ·go_enter Try.func151, Try.ntmps151
  go_wp2
  go_ret
  exact ⟨ret_b (by simp [valuedB]; omega), rfl⟩
 ·go_enter Try.func151, Try.ntmps151
  go_wp2
  go_ret
  exact ⟨ret_b (by simp [valuedB]; omega), rfl⟩
def valB (B : BlkV) (n ahead : Int) : Bool := decide (0 ≤ n) && (decide (n < ahead) && (decide (n < (B.ops.length : Int)) && valuedB (qz B.ops n).f0))
theorem value_c (B : BlkV) (g : Nat) (n ahead : Int) (w : World) (hB : BlockAt w g B) :
  Calls Try.prog 135 #[.agg #[.pointer (some ⟨g, 0, none⟩)], .int .i64 n, .int .i64 ahead] w fun e w' => e = .returned (.bool (valB B n ahead)) ∧ Below w.heap.size w w' := by
 obtain ⟨A1, c1, h1, k1⟩ := hB.ops
 have hg : g < w.heap.size := World.block_lt_of_cell? w ⟨g, 1, none⟩ h1
 have hg2 : ¬ g = w.heap.size := by omega
 by_cases q0 : 0 ≤ n
 case neg =>
  have e : valB B n ahead = false := by simp [valB]; omega
  rw [e]
  clear k1 hB e
  go_enter Try.func135, Try.ntmps135
  go_wp2
  go_ret
  exact ⟨rfl, bal (Below.refl _ _) _⟩
 by_cases q1 : n < ahead
 case neg =>
  have e : valB B n ahead = false := by simp [valB]; omega
  rw [e]
  clear k1 hB e
  go_enter Try.func135, Try.ntmps135
  go_wp2
  go_ret
  exact ⟨rfl, bal (Below.refl _ _) _⟩
 by_cases q2 : n < (B.ops.length : Int)
 case neg =>
  have e : valB B n ahead = false := by simp [valB]; omega
  rw [e]
  clear k1 hB e
  go_enter Try.func135, Try.ntmps135
  go_wp2
  go_ret
  exact ⟨rfl, bal (Below.refl _ _) _⟩
 obtain ⟨ad, rfl, d0, -⟩ := at_T67 k1 n q0 q2
 have hd : (ad.add (n.toNat * 6)).block < w.heap.size := World.block_lt_of_cell? w _ d0
 have hd2 : ¬ (ad.add (n.toNat * 6)).block = w.heap.size := by omega
 have e : valB B n ahead = valuedB (qz B.ops n).f0 := by simp [valB, q0, q1, q2]
 rw [e]
 have d1 := cellk (bal (Below.refl w.heap.size w) (.cells #[.pointer (some ⟨g, 0, none⟩)] 122)) d0
 generalize (qz B.ops n).f0 = code at *
 have HV := Lib.hid (fun v => valued_c code v)
 clear k1 hB e
 go_enter Try.func135, Try.ntmps135
 go_wp2_with fail
 refine (HV.out _).mono ?_
 rintro e w' ⟨rfl, rfl⟩
 go_wp2
 go_ret
 exact ⟨rfl, bal (Below.refl _ _) _⟩
end Go.Proofs.Ythjgakoofmmloaa

namespace Go.Proofs.Ythjgakoofmmloaa
open Go.RowKit Go.Proofs.YthjgakoofmmloaaW.PrintWords Go.Proofs.Ythjgakoofmmloaa.PNumberDoes
set_option linter.unusedVariables false
set_option linter.unusedSimpArgs false

theorem exitfn_c (B : BlkV) (g : Nat) (reg val ahead : Int) (b1 b2 : Nat) (w : World) (hB : BlockAt w g B) (h1 : w.cell? ⟨b1, 0, none⟩ = some (.pointer (some ⟨g, 0, none⟩))) (h2 : w.cell? ⟨b2, 0, none⟩ = some (.int .i64 ahead)) :
  Calls Try.prog 138 #[.agg #[.int .i64 reg, .int .i64 val], .pointer (some ⟨b1, 0, none⟩), .pointer (some ⟨b2, 0, none⟩)] w fun e w' => e = .returned (.bool (!valB B val ahead)) ∧ Below w.heap.size w w' := by
 have hl1 : b1 < w.heap.size := World.block_lt_of_cell? w ⟨b1, 0, none⟩ h1
 have hl2 : b2 < w.heap.size := World.block_lt_of_cell? w ⟨b2, 0, none⟩ h2
 have n1 : ¬ b1 = w.heap.size := by omega
 have n2 : ¬ b2 = w.heap.size := by omega
 have hbw := bal (Below.refl w.heap.size w) (.cells #[.int .i64 reg, .int .i64 val] 70)
 have HV := Lib.hid (value_c B g val ahead _ (hB.below hbw))
 have h3 := cellk hbw h1
 have h4 := cellk hbw h2
 have HBW := Lib.hid hbw
 clear hB hbw hl1 hl2
 generalize valB B val ahead = r at *
 go_enter Try.func138, Try.ntmps138
 go_wp2_with fail
 refine HV.out.mono ?_
 rintro e w1 ⟨rfl, hb1⟩
 have HB1 := Lib.hid (bthen HBW.out hb1)
 clear hb1
 go_wp2
 go_ret
 exact ⟨rfl, HB1.out⟩
def badB (B : BlkV) (ahead : Int) (v : S70) : Bool := !valB B v.f1 ahead
set_option maxHeartbeats 2000000 in
theorem vindex_c (B : BlkV) (g : Nat) (ahead : Int) (b1 b2 : Nat) (A : Option Addr) (c : Nat) (xs : List S70) (hx : xs.length ≤ 1000000) (w : World) (hB : BlockAt w g B) (hC : k70.C w A xs.length xs) (h1 : w.cell? ⟨b1, 0, none⟩ = some (.pointer (some ⟨g, 0, none⟩))) (h2 : w.cell? ⟨b2, 0, none⟩ = some (.int .i64 ahead)) :
  Calls Try.prog 152 #[.slice A xs.length c, .func (.func 138) #[] #[.pointer (some ⟨b1, 0, none⟩), .pointer (some ⟨b2, 0, none⟩)]] w fun e w' => (∃ v, e = .returned (.int .i64 v) ∧ ((0 ≤ v ∧ xs.any (badB B ahead) = true) ∨ (v = -1 ∧ xs.any (badB B ahead) = false))) ∧ Below w.heap.size w w' := by
 have HF := Lib.hid (fun (q : S70) v (hb : Below w.heap.size w v) => exitfn_c B g q.f0 q.f1 ahead b1 b2 v (hB.below hb) (cellk hb h1) (cellk hb h2))
 have HC := Lib.hid hC
 clear hB hC h1 h2
 go_enter Try.func152, Try.ntmps152
 go_wp2
 go_loopw [8] (fun i wr => ∃ k : Nat, k ≤ xs.length ∧ i = .int .i64 k ∧ Hid ((xs.take k).any (badB B ahead) = false) ∧ Hid (Below w.heap.size w wr)) (fun i _ => xs.length - (intOf i).toNat)
 case atStart => exact ⟨0, Nat.zero_le _, rfl, Lib.hid (by simp), Lib.hid (Below.refl _ _)⟩
 case round =>
  obtain ⟨k, hk, rfl, HN, HB⟩ := hrel
  by_cases hlt : k < xs.length
  ·obtain ⟨ad, rfl, d0, d1⟩ := at_T70 (Kd.qn HC.out HB.out) (k : Int) (by omega) (by omega)
   have hq : rd_T70 xs (k : Int) = xs[k] := by simp [rd_T70, hlt]
   have hT : (xs.take (k + 1)).any (badB B ahead) = ((xs.take k).any (badB B ahead) || badB B ahead (rd_T70 xs (k : Int))) := by
    rw [hq, List.take_succ_eq_append_getElem hlt, List.any_append]
    simp
   have hA : badB B ahead (rd_T70 xs (k : Int)) = true → xs.any (badB B ahead) = true := fun h => List.any_eq_true.2 ⟨_, by rw [hq]; exact List.getElem_mem hlt, h⟩
   have HT := Lib.hid hT
   have HA := Lib.hid hA
   have HE := Lib.hid (HF.out (rd_T70 xs (k : Int)) _ HB.out)
   simp only [Int.toNat_natCast] at d0 d1
   clear hq hT hA
   generalize rd_T70 xs (k : Int) = q at *
   rcases Bool.eq_false_or_eq_true (badB B ahead q) with hb | hb
   ·have HA' := Lib.hid (HA.out hb)
    unfold badB at hb
    rw [hb] at HE
    clear HA HT hb
    go_wp2_with fail
    refine HE.out.mono ?_
    rintro e w1 ⟨rfl, hb1⟩
    have HB1 := Lib.hid (bthen HB.out hb1)
    clear hb1
    go_wp2
    go_ret
    exact ⟨⟨_, rfl, .inl ⟨by omega, HA'.out⟩⟩, HB1.out⟩
   ·have HT' := Lib.hid (show (xs.take (k + 1)).any (badB B ahead) = false by rw [HT.out, HN.out, hb]; rfl)
    unfold badB at hb
    rw [hb] at HE
    clear HA HT hb
    go_wp2_with fail
    refine HE.out.mono ?_
    rintro e w1 ⟨rfl, hb1⟩
    have HB1 := Lib.hid (bthen HB.out hb1)
    clear hb1
    go_wp2
    go_roundw
    case rel => exact ⟨k + 1, by omega, by go_num, HT', HB1⟩
    case measure => simp [intOf]; omega
  ·obtain rfl : k = xs.length := by omega
   have hN := HN.out
   rw [List.take_length] at hN
   have HN' := Lib.hid hN
   clear hN
   go_wp2
   go_ret
   exact ⟨⟨_, rfl, .inr ⟨rfl, HN'.out⟩⟩, HB.out⟩
theorem vcontains_c (B : BlkV) (g : Nat) (ahead : Int) (b1 b2 : Nat) (A : Option Addr) (c : Nat) (xs : List S70) (hx : xs.length ≤ 1000000) (w : World) (hB : BlockAt w g B) (hC : k70.C w A xs.length xs) (h1 : w.cell? ⟨b1, 0, none⟩ = some (.pointer (some ⟨g, 0, none⟩))) (h2 : w.cell? ⟨b2, 0, none⟩ = some (.int .i64 ahead)) :
  Calls Try.prog 137 #[.slice A xs.length c, .func (.func 138) #[] #[.pointer (some ⟨b1, 0, none⟩), .pointer (some ⟨b2, 0, none⟩)]] w fun e w' => e = .returned (.bool (xs.any (badB B ahead))) ∧ Below w.heap.size w w' := by
 have HI := Lib.hid (vindex_c B g ahead b1 b2 A c xs hx w hB hC h1 h2)
 clear hB hC h1 h2
 go_enter Try.func137, Try.ntmps137
 go_wp2_with fail
 refine HI.out.mono ?_
 rintro e w1 ⟨⟨v, rfl, hv⟩, hb1⟩
 have HB1 := Lib.hid hb1
 clear hb1
 rcases hv with ⟨h0, h⟩ | ⟨rfl, h⟩
 ·have HH := Lib.hid h
  clear h
  go_wp2
  go_ret
  exact ⟨ret_b (by rw [HH.out]), HB1.out⟩
 ·have HH := Lib.hid h
  clear h
  go_wp2
  go_ret
  exact ⟨ret_b (by rw [HH.out]), HB1.out⟩
end Go.Proofs.Ythjgakoofmmloaa

namespace Go.Proofs.Ythjgakoofmmloaa
open Go.RowKit Go.Proofs.YthjgakoofmmloaaW.PrintWords Go.Proofs.Ythjgakoofmmloaa.PNumberDoes
set_option linter.unusedVariables false
set_option linter.unusedSimpArgs false

def Maps (B : BlkV) : Prop := ∀ n : Int, (qJ B.exits n).f4.length ≤ 1000000
def exitB (B : BlkV) (n ahead : Int) : Bool := decide (0 ≤ n) && (decide (n < (B.exits.length : Int)) && ((decide ((qJ B.exits n).f2 = -1) || valB B (qJ B.exits n).f2 ahead) && !((qJ B.exits n).f4.any (badB B ahead))))
set_option maxHeartbeats 2000000 in
theorem exit_c (B : BlkV) (g : Nat) (n ahead : Int) (w : World) (hB : BlockAt w g B) (hM : Maps B) :
  Calls Try.prog 118 #[.agg #[.pointer (some ⟨g, 0, none⟩)], .int .i64 n, .int .i64 ahead] w fun e w' => e = .returned (.bool (exitB B n ahead)) ∧ Below w.heap.size w w' := by
 obtain ⟨A2, c2, h2, k2⟩ := hB.exits
 have hg : g < w.heap.size := World.block_lt_of_cell? w ⟨g, 2, none⟩ h2
 have hg2 : ¬ g = w.heap.size := by omega
 have hg3 : ¬ g = w.heap.size + 1 := by omega
 by_cases q0 : 0 ≤ n
 case neg =>
  have e : exitB B n ahead = false := by simp [exitB]; omega
  rw [e]
  clear k2 hB e hM
  go_enter Try.func118, Try.ntmps118
  go_wp2
  go_ret
  exact ⟨rfl, bal (bal (Below.refl _ _) _) _⟩
 by_cases q1 : n < (B.exits.length : Int)
 case neg =>
  have e : exitB B n ahead = false := by simp [exitB]; omega
  rw [e]
  clear k2 hB e hM
  go_enter Try.func118, Try.ntmps118
  go_wp2
  go_ret
  exact ⟨rfl, bal (bal (Below.refl _ _) _) _⟩
 obtain ⟨ad, A4, c4, rfl, d0, d1, d2, d3, d4, l4, k4⟩ := at_T73 k2 n q0 q1
 have e : exitB B n ahead = ((decide ((qJ B.exits n).f2 = -1) || valB B (qJ B.exits n).f2 ahead) && !((qJ B.exits n).f4.any (badB B ahead))) := by simp [exitB, q0, q1]
 rw [e]
 have hm := hM n
 have hbw := bal (bal (Below.refl w.heap.size w) (.cells #[.pointer (some ⟨g, 0, none⟩)] 122)) (.cells #[.int .i64 ahead] 3)
 have p0 := cellk hbw d0
 have p1 := cellk hbw d1
 have p2 := cellk hbw d2
 have p3 := cellk hbw d3
 have p4 := cellk hbw d4
 generalize qJ B.exits n = x at *
 have HV := Lib.hid (fun v (hb : Below w.heap.size w v) => value_c B g x.f2 ahead v (hB.below hb))
 have HC := Lib.hid (fun v b1 b2 (hb : Below w.heap.size w v) => vcontains_c B g ahead b1 b2 A4 c4 x.f4 hm v (hB.below hb) (Kd.qn k4 hb))
 clear k2 hB e hM k4 d0 d1 d2 d3 d4
 by_cases q2 : x.f2 = -1
 ·have e : (decide (x.f2 = -1) || valB B x.f2 ahead) = true := by simp [q2]
  rw [e, Bool.true_and]
  clear HV e
  generalize x.f4.any (badB B ahead) = r at *
  go_enter Try.func118, Try.ntmps118
  go_wp2_with fail
  refine (HC.out _ _ _ (bal (bal (bal (Below.refl _ _) _) _) _) (by simp [go_sem]) (by simp [go_sem])).mono ?_
  rintro e w1 ⟨rfl, hb1⟩
  have HB1 := Lib.hid (bthen (bal (bal (bal (Below.refl w.heap.size w) _) _) _) hb1)
  clear hb1
  go_wp2
  go_ret
  exact ⟨rfl, HB1.out⟩
 ·have e : (decide (x.f2 = -1) || valB B x.f2 ahead) = valB B x.f2 ahead := by simp [q2]
  rw [e]
  clear e
  rcases Bool.eq_false_or_eq_true (valB B x.f2 ahead) with hv | hv
  ·rw [hv] at HV
   rw [hv, Bool.true_and]
   clear hv
   generalize x.f4.any (badB B ahead) = r at *
   go_enter Try.func118, Try.ntmps118
   go_wp2_with fail
   refine (HV.out _ (bal (bal (bal (Below.refl _ _) _) _) _)).mono ?_
   rintro e w1 ⟨rfl, hb1⟩
   have y0 := cellk hb1 (a := ⟨w.heap.size, 0, none⟩) (v := .pointer (some ⟨g, 0, none⟩)) (by simp [go_sem])
   have y1 := cellk hb1 (a := ⟨w.heap.size + 1, 0, none⟩) (v := .int .i64 ahead) (by simp [go_sem])
   have y2 := cellk hb1 (a := ⟨w.heap.size + 1 + 1, 4, none⟩) (v := .slice A4 x.f4.length c4) (by simp [go_sem])
   have HB1 := Lib.hid (bthen (bal (bal (bal (Below.refl w.heap.size w) _) _) _) hb1)
   clear hb1
   go_wp2_with fail
   refine (HC.out _ _ _ HB1.out y0 y1).mono ?_
   rintro e w2 ⟨rfl, hb2⟩
   have HB2 := Lib.hid (bthen HB1.out hb2)
   clear hb2
   go_wp2
   go_ret
   exact ⟨rfl, HB2.out⟩
  ·rw [hv] at HV
   rw [hv, Bool.false_and]
   clear hv HC
   go_enter Try.func118, Try.ntmps118
   go_wp2_with fail
   refine (HV.out _ (bal (bal (bal (Below.refl _ _) _) _) _)).mono ?_
   rintro e w1 ⟨rfl, hb1⟩
   have HB1 := Lib.hid (bthen (bal (bal (bal (Below.refl w.heap.size w) _) _) _) hb1)
   clear hb1
   go_wp2
   go_ret
   exact ⟨rfl, HB1.out⟩
end Go.Proofs.Ythjgakoofmmloaa

namespace Go.Proofs.Ythjgakoofmmloaa
open Go.RowKit Go.Proofs.YthjgakoofmmloaaW.PrintWords Go.Proofs.YthjgakoofmmloaaW.PrintLast Go.Proofs.YthjgakoofmmloaaW.PrintMore
open Go.Proofs.Ythjgakoofmmloaa.PNumberDoes
set_option linter.unusedVariables false
set_option linter.unusedSimpArgs false

def reckB (n : Int) : Bool := (decide (19 ≤ n) && decide (n ≤ 37)) || (decide (50 ≤ n) && decide (n ≤ 57))
def loadV (n : Int) : Int := if n = 11 ∨ n = 14 then 1 else if n = 12 ∨ n = 15 then 2 else if n = 13 then 4 else 0
def storeV (n : Int) : Int := if n = 16 then 1 else if n = 17 then 2 else if n = 18 then 4 else 0
theorem reckon_f (n : Int) : ir_Reckons.f n = some (reckB n) := by
 unfold ir_Reckons.f alu_Has.f muldiv_Has.f reckB
 by_cases h : 19 ≤ n <;> by_cases h1 : n ≤ 37 <;> by_cases h2 : 50 ≤ n <;> by_cases h3 : n ≤ 57 <;> simp [h, h1, h2, h3] <;> omega
theorem load_f (n : Int) : inst_Loads.f 2 n = some (loadV n) := by
 unfold inst_Loads.f loadV
 by_cases h : n = 11
 ·simp [h, inst_Loads.j0]
 by_cases h1 : n = 14
 ·simp [h, h1, inst_Loads.j0]
 by_cases h2 : n = 12
 ·simp [h, h1, h2, inst_Loads.j0, inst_Loads.j1]
 by_cases h3 : n = 15
 ·simp [h, h1, h2, h3, inst_Loads.j0, inst_Loads.j1]
 by_cases h4 : n = 13
 ·simp [h, h1, h2, h3, h4, inst_Loads.j0, inst_Loads.j1]
 ·simp [h, h1, h2, h3, h4, inst_Loads.j0, inst_Loads.j1]
theorem store_f (n : Int) : inst_Stores.f n = some (storeV n) := by
 unfold inst_Stores.f storeV
 by_cases h : n = 16
 ·simp [h]
 by_cases h1 : n = 17
 ·simp [h, h1]
 by_cases h2 : n = 18
 ·simp [h, h1, h2]
 ·simp [h, h1, h2]
def kindB (o : S67) : Bool :=
 if o.f0 = 1 then decide (1 ≤ wrap64 o.f3) && decide (wrap64 o.f3 ≤ 31)
 else if o.f0 = 2 then true
 else if o.f0 = 3 then reckB (wrap64 o.f3)
 else if o.f0 = 4 then decide (0 < loadV (wrap64 o.f3))
 else if o.f0 = 5 then decide (0 < storeV (wrap64 o.f3))
 else if o.f0 = 6 then decide (5 ≤ wrap64 o.f3) && decide (wrap64 o.f3 ≤ 10)
 else false
theorem kind_f (o : S67) : ir_kind.f 2 o.f0 o.f1 o.f2 o.f3 o.f4 o.f5 = some (kindB o) := by
 unfold ir_kind.f kindB
 rw [reckon_f, load_f, store_f]
 generalize wrap64 o.f3 = n
 split
 ·by_cases h : 1 ≤ n <;> simp [h]
 split
 ·rfl
 split
 ·rfl
 split
 ·rfl
 split
 ·rfl
 split
 ·by_cases h : 5 ≤ n <;> simp [h]
 ·rfl
def namedB (o : S67) : Bool :=
 if o.f0 = 5 then true
 else if o.f0 = 6 then 0 == o.f5
 else if o.f0 = 3 then 0 == o.f4 && (0 == o.f5)
 else if o.f0 = 4 then 0 == o.f2 && (0 == o.f5)
 else 0 == o.f1 && (0 == o.f2 && (0 == o.f4 && (0 == o.f5)))
theorem named_f (o : S67) : ir_named.f o.f0 o.f1 o.f2 o.f3 o.f4 o.f5 = some (namedB o) := by
 unfold ir_named.f namedB
 split
 ·rfl
 split
 ·rfl
 split
 ·rfl
 split
 ·rfl
 ·rfl
def usesL (o : S67) : List Int := if o.f0 = 3 ∨ o.f0 = 5 ∨ o.f0 = 6 then [o.f1, o.f2] else if o.f0 = 4 then [o.f1] else []
theorem uses_f (o : S67) : ir_Uses.f 1 o.f0 o.f1 o.f2 o.f3 o.f4 o.f5 = some (usesL o) := by
 unfold ir_Uses.f usesL ir_Uses.j0
 by_cases h : o.f0 = 3
 ·simp [h]
 by_cases h1 : o.f0 = 5
 ·simp [h1]
 by_cases h2 : o.f0 = 6
 ·simp [h2]
 by_cases h3 : o.f0 = 4
 ·simp [h3]
 ·simp [h, h1, h2, h3]
theorem kind_c (o : S67) (w : World) : Calls Try.prog 133 #[.agg #[.int .i64 o.f0, .int .i64 o.f1, .int .i64 o.f2, .int .u32 o.f3, .int .i64 o.f4, .int .i64 o.f5]] w fun e w' => e = .returned (.bool (kindB o)) ∧ Below w.heap.size w w' :=
 ir_kind.calls 2 _ _ _ _ _ _ _ w (kind_f o)
theorem named_c (o : S67) (w : World) : Calls Try.prog 134 #[.agg #[.int .i64 o.f0, .int .i64 o.f1, .int .i64 o.f2, .int .u32 o.f3, .int .i64 o.f4, .int .i64 o.f5]] w fun e w' => e = .returned (.bool (namedB o)) ∧ Below w.heap.size w w' :=
 ir_named.calls _ _ _ _ _ _ _ w (named_f o)
theorem uses_c (o : S67) (w : World) : Calls Try.prog 89 #[.agg #[.int .i64 o.f0, .int .i64 o.f1, .int .i64 o.f2, .int .u32 o.f3, .int .i64 o.f4, .int .i64 o.f5]] w fun e w' => (∃ A c, e = .returned (.slice A (usesL o).length c) ∧ (Kd.int .i64).C w' A (usesL o).length (usesL o)) ∧ Below w.heap.size w w' := by
 refine (ir_Uses.calls 1 _ _ _ _ _ _ _ w (uses_f o)).mono ?_
 rintro e w' ⟨v, rfl, hR, hb⟩
 obtain ⟨A, c, rfl, -, hC⟩ := Kd.R_reads hR
 exact ⟨⟨A, c, rfl, hC⟩, hb⟩
end Go.Proofs.Ythjgakoofmmloaa

namespace Go.Proofs.Ythjgakoofmmloaa
open Go.RowKit Go.Proofs.YthjgakoofmmloaaW.PrintWords Go.Proofs.Ythjgakoofmmloaa.PNumberDoes
set_option linter.unusedVariables false
set_option linter.unusedSimpArgs false

def opB (B : BlkV) (k : Int) : Bool :=
 kindB (qz B.ops k) && (namedB (qz B.ops k) && ((usesL (qz B.ops k)).all (fun n => valB B n k) && (if (qz B.ops k).f0 = 5 then exitB B (qz B.ops k).f4 k && exitB B (qz B.ops k).f5 k else if (qz B.ops k).f0 = 4 ∨ (qz B.ops k).f0 = 6 then exitB B (qz B.ops k).f4 k else true)))
set_option maxHeartbeats 4000000 in
theorem op_c (B : BlkV) (g : Nat) (k : Int) (hk0 : 0 ≤ k) (hk1 : k < (B.ops.length : Int)) (w : World) (hB : BlockAt w g B) (hM : Maps B) :
  Calls Try.prog 114 #[.agg #[.pointer (some ⟨g, 0, none⟩)], .int .i64 k] w fun e w' => e = .returned (.bool (opB B k)) ∧ Below w.heap.size w w' := by
 obtain ⟨A1, c1, h1, k1⟩ := hB.ops
 have hg : g < w.heap.size := World.block_lt_of_cell? w ⟨g, 1, none⟩ h1
 have hg2 : ¬ g = w.heap.size := by omega
 obtain ⟨ad, rfl, d0, d1, d2, d3, d4, d5⟩ := at_T67 k1 k hk0 hk1
 have hbw := bal (Below.refl w.heap.size w) (.cells #[.pointer (some ⟨g, 0, none⟩)] 122)
 have p0 := cellk hbw d0
 have p1 := cellk hbw d1
 have p2 := cellk hbw d2
 have p3 := cellk hbw d3
 have p4 := cellk hbw d4
 have p5 := cellk hbw d5
 have ho : opB B k = (kindB (qz B.ops k) && (namedB (qz B.ops k) && ((usesL (qz B.ops k)).all (fun n => valB B n k) && (if (qz B.ops k).f0 = 5 then exitB B (qz B.ops k).f4 k && exitB B (qz B.ops k).f5 k else if (qz B.ops k).f0 = 4 ∨ (qz B.ops k).f0 = 6 then exitB B (qz B.ops k).f4 k else true)))) := rfl
 rw [ho]
 generalize qz B.ops k = o at *
 have HK := Lib.hid (fun v => kind_c o v)
 have HN := Lib.hid (fun v => named_c o v)
 have HU := Lib.hid (fun v => uses_c o v)
 have HV := Lib.hid (fun n v (hb : Below w.heap.size w v) => value_c B g n k v (hB.below hb))
 have HX := Lib.hid (fun n v (hb : Below w.heap.size w v) => exit_c B g n k v (hB.below hb) hM)
 clear ho hB hM d0 d1 d2 d3 d4 d5 k1
 rcases Bool.eq_false_or_eq_true (kindB o) with hq | hq
 case inr =>
  rw [hq, Bool.false_and]
  rw [hq] at HK
  clear HN HU HV HX hq
  go_enter Try.func114, Try.ntmps114
  go_wp2_with fail
  refine (HK.out _).mono ?_
  rintro e w1 ⟨rfl, hb1⟩
  have HB1 := Lib.hid (bthen (bal (bal (Below.refl w.heap.size w) _) _) hb1)
  clear hb1
  go_wp2
  go_ret
  exact ⟨rfl, HB1.out⟩
 rw [hq, Bool.true_and]
 rw [hq] at HK
 clear hq
 rcases Bool.eq_false_or_eq_true (namedB o) with hq | hq
 case inr =>
  rw [hq, Bool.false_and]
  rw [hq] at HN
  clear HU HV HX hq
  go_enter Try.func114, Try.ntmps114
  go_wp2_with fail
  refine (HK.out _).mono ?_
  rintro e w1 ⟨rfl, hb1⟩
  have y0 := cellk hb1 (a := ⟨w.heap.size + 1, 0, none⟩) (v := .int .i64 o.f0) (by simp [go_sem])
  have y1 := cellk hb1 (a := ⟨w.heap.size + 1, 1, none⟩) (v := .int .i64 o.f1) (by simp [go_sem])
  have y2 := cellk hb1 (a := ⟨w.heap.size + 1, 2, none⟩) (v := .int .i64 o.f2) (by simp [go_sem])
  have y3 := cellk hb1 (a := ⟨w.heap.size + 1, 3, none⟩) (v := .int .u32 o.f3) (by simp [go_sem])
  have y4 := cellk hb1 (a := ⟨w.heap.size + 1, 4, none⟩) (v := .int .i64 o.f4) (by simp [go_sem])
  have y5 := cellk hb1 (a := ⟨w.heap.size + 1, 5, none⟩) (v := .int .i64 o.f5) (by simp [go_sem])
  have HB1 := Lib.hid (bthen (bal (bal (Below.refl w.heap.size w) _) _) hb1)
  clear hb1
  go_wp2_with fail
  refine (HN.out _).mono ?_
  rintro e w2 ⟨rfl, hb2⟩
  have HB2 := Lib.hid (bthen HB1.out hb2)
  clear hb2
  go_wp2
  go_ret
  exact ⟨rfl, HB2.out⟩
 rw [hq, Bool.true_and]
 rw [hq] at HN
 clear hq
 generalize hus : usesL o = us at *
 have hul : us.length ≤ 2 := by
  rw [← hus]
  unfold usesL
  split
  ·simp
  ·split <;> simp
 clear hus
 obtain ⟨V, hV⟩ : ∃ V, V = (us.all (fun n => valB B n k) && (if o.f0 = 5 then exitB B o.f4 k && exitB B o.f5 k else if o.f0 = 4 ∨ o.f0 = 6 then exitB B o.f4 k else true)) := ⟨_, rfl⟩
 rw [← hV]
 have HVV := Lib.hid hV
 clear hV
 go_enter Try.func114, Try.ntmps114
 go_wp2_with fail
 refine (HK.out _).mono ?_
 rintro e w1 ⟨rfl, hb1⟩
 have x0 := cellk hb1 (a := ⟨w.heap.size, 0, none⟩) (v := .pointer (some ⟨g, 0, none⟩)) (by simp [go_sem])
 have y0 := cellk hb1 (a := ⟨w.heap.size + 1, 0, none⟩) (v := .int .i64 o.f0) (by simp [go_sem])
 have y1 := cellk hb1 (a := ⟨w.heap.size + 1, 1, none⟩) (v := .int .i64 o.f1) (by simp [go_sem])
 have y2 := cellk hb1 (a := ⟨w.heap.size + 1, 2, none⟩) (v := .int .i64 o.f2) (by simp [go_sem])
 have y3 := cellk hb1 (a := ⟨w.heap.size + 1, 3, none⟩) (v := .int .u32 o.f3) (by simp [go_sem])
 have y4 := cellk hb1 (a := ⟨w.heap.size + 1, 4, none⟩) (v := .int .i64 o.f4) (by simp [go_sem])
 have y5 := cellk hb1 (a := ⟨w.heap.size + 1, 5, none⟩) (v := .int .i64 o.f5) (by simp [go_sem])
 have HB1 := Lib.hid (bthen (bal (bal (Below.refl w.heap.size w) _) _) hb1)
 clear hb1
 go_wp2_with fail
 refine (HN.out _).mono ?_
 rintro e w2 ⟨rfl, hb2⟩
 replace x0 := cellk hb2 x0
 replace y0 := cellk hb2 y0
 replace y1 := cellk hb2 y1
 replace y2 := cellk hb2 y2
 replace y3 := cellk hb2 y3
 replace y4 := cellk hb2 y4
 replace y5 := cellk hb2 y5
 have HB2 := Lib.hid (bthen HB1.out hb2)
 clear hb2 HB1
 go_wp2_with fail
 refine (HU.out _).mono ?_
 rintro e w3 ⟨⟨A3, c3, rfl, hC3⟩, hb3⟩
 replace x0 := cellk hb3 x0
 replace y0 := cellk hb3 y0
 replace y4 := cellk hb3 y4
 replace y5 := cellk hb3 y5
 have HB3 := Lib.hid (bthen HB2.out hb3)
 have HC3 := Lib.hid hC3
 clear hb3 HB2 hC3 y1 y2 y3 HK HN HU
 go_wp2
 go_loopw [27] (fun i wr => ∃ j : Nat, j ≤ us.length ∧ i = .int .i64 j ∧ Hid ((us.take j).all (fun n => valB B n k) = true) ∧ Hid (Below w3.heap.size w3 wr)) (fun i _ => us.length - (intOf i).toNat)
 case atStart => exact ⟨0, Nat.zero_le _, rfl, Lib.hid (by simp), Lib.hid (Below.refl _ _)⟩
 case round =>
  obtain ⟨j, hj, rfl, HT, HB⟩ := hrel
  have z0 := cellk HB.out x0
  have z1 := cellk HB.out y0
  have z4 := cellk HB.out y4
  have z5 := cellk HB.out y5
  have HBW := Lib.hid (bthen HB3.out HB.out)
  by_cases hlt : j < us.length
  ·obtain ⟨ad, rfl, e0⟩ := Kd.at_int (Kd.qn HC3.out HB.out) (j : Int) (by omega) (by omega)
   have hq : rd us (j : Int) = us[j] := by simp [rd, hlt]
   have hT : (us.take (j + 1)).all (fun n => valB B n k) = ((us.take j).all (fun n => valB B n k) && valB B (rd us (j : Int)) k) := by
    rw [hq, List.take_succ_eq_append_getElem hlt, List.all_append]
    simp
   have hA : valB B (rd us (j : Int)) k = false → us.all (fun n => valB B n k) = false := fun h => List.all_eq_false.2 ⟨us[j], List.getElem_mem hlt, by rw [← hq]; simpa using h⟩
   have HTT := Lib.hid hT
   have HA := Lib.hid hA
   have HE := Lib.hid (HV.out (rd us (j : Int)) _ HBW.out)
   simp only [Int.toNat_natCast] at e0
   clear hq hT hA
   generalize rd us (j : Int) = q at *
   rcases Bool.eq_false_or_eq_true (valB B q k) with hv | hv
   ·have HT' := Lib.hid (show (us.take (j + 1)).all (fun n => valB B n k) = true by rw [HTT.out, HT.out, hv]; rfl)
    rw [hv] at HE
    clear HA HTT hv
    go_wp2_with fail
    refine HE.out.mono ?_
    rintro e w4 ⟨rfl, hb4⟩
    have HB4 := Lib.hid (bthen HB.out hb4)
    clear hb4
    go_wp2
    go_roundw
    case rel => exact ⟨j + 1, by omega, by go_num, HT', HB4⟩
    case measure => simp [intOf]; omega
   ·have HA' := Lib.hid (HA.out hv)
    rw [hv] at HE
    clear HA HTT hv
    go_wp2_with fail
    refine HE.out.mono ?_
    rintro e w4 ⟨rfl, hb4⟩
    have HB4 := Lib.hid (bthen HBW.out hb4)
    clear hb4
    go_wp2
    go_ret
    exact ⟨ret_b (by rw [HVV.out, HA'.out, Bool.false_and]), HB4.out⟩
  ·obtain rfl : j = us.length := by omega
   have hN := HT.out
   rw [List.take_length] at hN
   have HN' := Lib.hid hN
   clear hN HT HV
   by_cases q5 : o.f0 = 5
   ·have HX4 := Lib.hid (HX.out o.f4 _ HBW.out)
    rcases Bool.eq_false_or_eq_true (exitB B o.f4 k) with hx | hx
    ·rw [hx] at HX4
     have HR := Lib.hid hx
     clear hx
     go_wp2_with fail
     refine HX4.out.mono ?_
     rintro e w4 ⟨rfl, hb4⟩
     have v0 := cellk hb4 z0
     have v5 := cellk hb4 z5
     have HB4 := Lib.hid (bthen HBW.out hb4)
     clear hb4
     go_wp2_with fail
     refine (HX.out o.f5 _ HB4.out).mono ?_
     rintro e w5 ⟨rfl, hb5⟩
     have HB5 := Lib.hid (bthen HB4.out hb5)
     clear hb5
     go_wp2
     go_ret
     exact ⟨ret_b (by rw [HVV.out, HN'.out, if_pos q5, HR.out]; rfl), HB5.out⟩
    ·rw [hx] at HX4
     have HR := Lib.hid hx
     clear hx
     go_wp2_with fail
     refine HX4.out.mono ?_
     rintro e w4 ⟨rfl, hb4⟩
     have HB4 := Lib.hid (bthen HBW.out hb4)
     clear hb4
     go_wp2
     go_ret
     exact ⟨ret_b (by rw [HVV.out, HN'.out, if_pos q5, HR.out]; rfl), HB4.out⟩
   by_cases q4 : o.f0 = 4
   ·go_wp2_with fail
    refine (HX.out o.f4 _ HBW.out).mono ?_
    rintro e w5 ⟨rfl, hb5⟩
    have HB5 := Lib.hid (bthen HBW.out hb5)
    clear hb5
    go_wp2
    go_ret
    exact ⟨ret_b (by rw [HVV.out, HN'.out, if_neg q5, if_pos (.inl q4)]; rfl), HB5.out⟩
   by_cases q6 : o.f0 = 6
   ·go_wp2_with fail
    refine (HX.out o.f4 _ HBW.out).mono ?_
    rintro e w5 ⟨rfl, hb5⟩
    have HB5 := Lib.hid (bthen HBW.out hb5)
    clear hb5
    go_wp2
    go_ret
    exact ⟨ret_b (by rw [HVV.out, HN'.out, if_neg q5, if_pos (.inr q6)]; rfl), HB5.out⟩
   ·clear HX
    go_wp2
    go_ret
    exact ⟨ret_b (by rw [HVV.out, HN'.out, if_neg q5, if_neg (by omega)]; rfl), HBW.out⟩
end Go.Proofs.Ythjgakoofmmloaa

namespace Go.Proofs.Ythjgakoofmmloaa
open Go.RowKit Go.Proofs.YthjgakoofmmloaaW.PrintWords Go.Proofs.Ythjgakoofmmloaa.PNumberDoes
set_option linter.unusedVariables false
set_option linter.unusedSimpArgs false

def risingB : Int → List S70 → Bool
 | _, [] => true
 | last, v :: l => !decide (v.f0 ≤ last) && (!decide (31 < v.f0) && risingB v.f0 l)
theorem rising_drop (last : Int) (xs : List S70) (j : Nat) (h : j < xs.length) : risingB last (xs.drop j) = (!decide ((rd_T70 xs (j : Int)).f0 ≤ last) && (!decide (31 < (rd_T70 xs (j : Int)).f0) && risingB (rd_T70 xs (j : Int)).f0 (xs.drop (j + 1)))) := by
 have hq : rd_T70 xs (j : Int) = xs[j] := by simp [rd_T70, h]
 rw [List.drop_eq_getElem_cons h, hq]
 rfl
def leavesB (B : BlkV) (n : Int) : Bool :=
 exitB B n (B.ops.length : Int) && (!decide ((qJ B.exits n).f0 < 0) && (!decide ((B.pcs.length : Int) < (qJ B.exits n).f0) && (decide ((qJ B.exits n).f1.tmod 4 = 0) && (!decide ((qJ B.exits n).f3 < 1) && (!decide (4 < (qJ B.exits n).f3) && risingB 0 (qJ B.exits n).f4)))))
set_option maxHeartbeats 4000000 in
theorem leaves_c (B : BlkV) (g : Nat) (n : Int) (hn0 : 0 ≤ n) (hn1 : n < (B.exits.length : Int)) (w : World) (hB : BlockAt w g B) (hM : Maps B) (hP : B.pcs.length ≤ 1000000) (hO : B.ops.length ≤ 1000000) :
  Calls Try.prog 115 #[.agg #[.pointer (some ⟨g, 0, none⟩)], .int .i64 n] w fun e w' => e = .returned (.bool (leavesB B n)) ∧ Below w.heap.size w w' := by
 obtain ⟨A0, c0, u0, k0⟩ := hB.pcs
 obtain ⟨A1, c1, u1, k1⟩ := hB.ops
 obtain ⟨A2, c2, u2, k2⟩ := hB.exits
 have hg : g < w.heap.size := World.block_lt_of_cell? w ⟨g, 1, none⟩ u1
 have hg2 : ¬ g = w.heap.size := by omega
 obtain ⟨ad, A4, c4, rfl, d0, d1, d2, d3, d4, l4, k4⟩ := at_T73 k2 n hn0 hn1
 have hbw := bal (Below.refl w.heap.size w) (.cells #[.pointer (some ⟨g, 0, none⟩)] 122)
 have p0 := cellk hbw d0
 have p1 := cellk hbw d1
 have p2 := cellk hbw d2
 have p3 := cellk hbw d3
 have p4 := cellk hbw d4
 have hm := hM n
 have HX := Lib.hid (fun v (hb : Below w.heap.size w v) => exit_c B g n (B.ops.length : Int) v (hB.below hb) hM)
 obtain ⟨V, hV⟩ : ∃ V, V = leavesB B n := ⟨_, rfl⟩
 rw [← hV]
 unfold leavesB at hV
 generalize qJ B.exits n = x at *
 have HC := Lib.hid k4
 generalize exitB B n (B.ops.length : Int) = E at *
 have hcase : (E = false ∧ V = false) ∨ (E = true ∧ ((x.f0 < 0 ∧ V = false) ∨ (decide (x.f0 < 0) = false ∧ 0 ≤ x.f0 ∧ (((B.pcs.length : Int) < x.f0 ∧ V = false) ∨ (decide ((B.pcs.length : Int) < x.f0) = false ∧ (((x.f1.tmod 4 != 0) = true ∧ V = false) ∨ (x.f1.tmod 4 = 0 ∧ ((x.f3 < 1 ∧ V = false) ∨ (decide (x.f3 < 1) = false ∧ ((4 < x.f3 ∧ V = false) ∨ (decide (4 < x.f3) = false ∧ V = risingB 0 x.f4))))))))))) := by
  rw [hV]
  rcases Bool.eq_false_or_eq_true E with h | h
  case inr => exact .inl ⟨h, by simp [h]⟩
  refine .inr ⟨h, ?_⟩
  by_cases h0 : x.f0 < 0
  ·exact .inl ⟨h0, by simp [h, h0]⟩
  refine .inr ⟨by simpa using h0, by omega, ?_⟩
  by_cases h1 : (B.pcs.length : Int) < x.f0
  ·exact .inl ⟨h1, by simp [h, h0, h1]⟩
  refine .inr ⟨by simpa using h1, ?_⟩
  by_cases h2 : x.f1.tmod 4 = 0
  case neg => exact .inl ⟨by simpa using h2, by simp [h, h0, h1, h2]⟩
  refine .inr ⟨h2, ?_⟩
  by_cases h3 : x.f3 < 1
  ·exact .inl ⟨h3, by simp [h, h0, h1, h2, h3]⟩
  refine .inr ⟨by simpa using h3, ?_⟩
  by_cases h4 : 4 < x.f3
  ·exact .inl ⟨h4, by simp [h, h0, h1, h2, h3, h4]⟩
  exact .inr ⟨by simpa using h4, by simp [h, h0, h1, h2, h3, h4]⟩
 clear hV hB hM d0 d1 d2 d3 d4 k0 k1 k2 k4
 rcases hcase with ⟨rfl, rfl⟩ | ⟨rfl, ⟨t0, rfl⟩ | ⟨t0, t0', ⟨t1, rfl⟩ | ⟨t1, ⟨t2, rfl⟩ | ⟨t2, ⟨t3, rfl⟩ | ⟨t3, ⟨t4, rfl⟩ | ⟨t4, hV⟩⟩⟩⟩⟩⟩
 case inr.inr.inr.inr.inr.inr =>
  go_enter Try.func115, Try.ntmps115
  go_wp2
  refine qF (by kernel_rfl) (by kernel_rfl) ?_
  intro S _ F hF hS
  have e0 := fcell hF (b := w.heap.size) (o := 0) (v := .pointer (some ⟨g, 0, none⟩)) (by simp [go_sem])
  have e1 := fcell hF (b := w.heap.size + 1) (o := 0) (v := .int .i64 x.f0) (by simp [go_sem])
  have e2 := fcell hF (b := w.heap.size + 1) (o := 1) (v := .int .u32 x.f1) (by simp [go_sem])
  have e3 := fcell hF (b := w.heap.size + 1) (o := 3) (v := .int .i64 x.f3) (by simp [go_sem])
  have e4 := fcell hF (b := g) (o := 0) (v := .slice A0 B.pcs.length c0) (cellk (bal (bal (Below.refl w.heap.size w) _) _) u0)
  have e5 := fcell hF (b := g) (o := 1) (v := .slice A1 B.ops.length c1) (cellk (bal (bal (Below.refl w.heap.size w) _) _) u1)
  have e6 := fcell hF (b := w.heap.size + 1) (o := 4) (v := .slice A4 x.f4.length c4) (by simp [go_sem])
  have HRF : ∀ s, Hid (Below w.heap.size w (F s)) := fun s => Lib.hid (bthen (bal (bal (Below.refl w.heap.size w) _) _) (hF s))
  repeat (go_big_quiet_step (first | (go_at_call 118; exact qbelow hS (HX.out _ (HRF _).out)) | fail))
  refine wpQuiet_nil ?_
  intro w2 hw2
  obtain ⟨s2, rfl⟩ := hw2
  have HB2 := Lib.hid (HRF s2).out
  have v6 := e6 s2
  have HVV := Lib.hid hV
  clear e6 hV e0 e1 e2 e3 e4 e5 hF hS HRF HX
  generalize F s2 = w2 at *
  go_wp2
  go_loopw [6, 62] (fun l i wr => ∃ (j : Nat) (last : Int), j ≤ x.f4.length ∧ l = .int .i64 last ∧ i = .int .i64 j ∧ Hid (V = risingB last (x.f4.drop j)) ∧ Hid (Below w2.heap.size w2 wr)) (fun _ i _ => x.f4.length - (intOf i).toNat)
  case atStart => exact ⟨0, 0, Nat.zero_le _, rfl, rfl, HVV, Lib.hid (Below.refl _ _)⟩
  case round =>
   obtain ⟨j, last, hj, rfl, rfl, HT, HB⟩ := hrel
   have HBW := Lib.hid (bthen HB2.out HB.out)
   clear HVV
   by_cases hlt : j < x.f4.length
   ·obtain ⟨ad, rfl, f0, f1⟩ := at_T70 (Kd.qn HC.out HBW.out) (j : Int) (by omega) (by omega)
    have hD := rising_drop last x.f4 j hlt
    have hT := HT.out
    rw [hD] at hT
    simp only [Int.toNat_natCast] at f0 f1
    clear hD HT
    generalize rd_T70 x.f4 (j : Int) = q at *
    by_cases q0 : q.f0 ≤ last
    ·have HT := Lib.hid (show V = false by rw [hT]; simp [q0])
     clear hT
     go_wp2
     go_ret
     exact ⟨ret_b HT.out.symm, bal HBW.out _⟩
    by_cases q1 : 31 < q.f0
    ·have HT := Lib.hid (show V = false by rw [hT]; simp [q1])
     clear hT
     go_wp2
     go_ret
     exact ⟨ret_b HT.out.symm, bal HBW.out _⟩
    have HT := Lib.hid (show V = risingB q.f0 (x.f4.drop (j + 1)) by rw [hT]; simp [q0, q1])
    clear hT
    go_wp2
    go_roundw
    case rel => exact ⟨j + 1, q.f0, by omega, rfl, by go_num, HT, Lib.hid (bal HB.out _)⟩
    case measure => simp [intOf]; omega
   ·obtain rfl : j = x.f4.length := by omega
    have hT := HT.out
    rw [List.drop_length] at hT
    have HT' := Lib.hid hT
    clear hT HT
    go_wp2
    go_ret
    exact ⟨ret_b (by rw [HT'.out]; rfl), HBW.out⟩
 all_goals
  go_enter Try.func115, Try.ntmps115
  go_wp2
  refine qF (by kernel_rfl) (by kernel_rfl) ?_
  intro S _ F hF hS
  have e0 := fcell hF (b := w.heap.size) (o := 0) (v := .pointer (some ⟨g, 0, none⟩)) (by simp [go_sem])
  have e1 := fcell hF (b := w.heap.size + 1) (o := 0) (v := .int .i64 x.f0) (by simp [go_sem])
  have e2 := fcell hF (b := w.heap.size + 1) (o := 1) (v := .int .u32 x.f1) (by simp [go_sem])
  have e3 := fcell hF (b := w.heap.size + 1) (o := 3) (v := .int .i64 x.f3) (by simp [go_sem])
  have e4 := fcell hF (b := g) (o := 0) (v := .slice A0 B.pcs.length c0) (cellk (bal (bal (Below.refl w.heap.size w) _) _) u0)
  have e5 := fcell hF (b := g) (o := 1) (v := .slice A1 B.ops.length c1) (cellk (bal (bal (Below.refl w.heap.size w) _) _) u1)
  have HRF : ∀ s, Hid (Below w.heap.size w (F s)) := fun s => Lib.hid (bthen (bal (bal (Below.refl w.heap.size w) _) _) (hF s))
  repeat (go_big_quiet_step (first | (go_at_call 118; exact qbelow hS (HX.out _ (HRF _).out)) | fail))
  refine wpQuiet_nil ?_
  intro w2 hw2
  obtain ⟨s2, rfl⟩ := hw2
  have HB2 := Lib.hid (HRF s2).out
  clear e0 e1 e2 e3 e4 e5 hF hS HRF HX
  generalize F s2 = w2 at *
  go_wp2
  go_ret
  exact ⟨rfl, HB2.out⟩
end Go.Proofs.Ythjgakoofmmloaa

namespace Go.Proofs.Ythjgakoofmmloaa
open Go.RowKit Go.Proofs.YthjgakoofmmloaaW.PrintWords Go.Proofs.Ythjgakoofmmloaa.PNumberDoes
set_option linter.unusedVariables false
set_option linter.unusedSimpArgs false

def oddB (pc : Int) : Bool := pc.tmod 4 != 0
theorem oddfn_c (pc : Int) (w : World) : Calls Try.prog 116 #[.int .u32 pc] w fun e w' => e = .returned (.bool (oddB pc)) ∧ w = w' := by
 by_cases h : pc.tmod 4 = 0
 ·go_enter Try.func116, Try.ntmps116
  go_wp2
  go_ret
  exact ⟨ret_b (by simp [oddB, h]), rfl⟩
 ·have h2 : (pc.tmod 4 != 0) = true := by simpa using h
  go_enter Try.func116, Try.ntmps116
  go_wp2
  go_ret
  exact ⟨ret_b (by simp [oddB, h]), rfl⟩
set_option maxHeartbeats 2000000 in
theorem uindex_c (A : Option Addr) (c : Nat) (xs : List Int) (hx : xs.length ≤ 1000000) (w : World) (hC : (Kd.int .u32).C w A xs.length xs) :
  Calls Try.prog 136 #[.slice A xs.length c, .func (.func 116) #[] #[]] w fun e w' => (∃ v, e = .returned (.int .i64 v) ∧ ((0 ≤ v ∧ xs.any oddB = true) ∨ (v = -1 ∧ xs.any oddB = false))) ∧ w = w' := by
 have HF := Lib.hid (fun q => oddfn_c q w)
 have HC := Lib.hid hC
 clear hC
 go_enter Try.func136, Try.ntmps136
 go_wp2
 go_loopw [8] (fun i wr => ∃ k : Nat, k ≤ xs.length ∧ i = .int .i64 k ∧ Hid ((xs.take k).any oddB = false) ∧ w = wr) (fun i _ => xs.length - (intOf i).toNat)
 case atStart => exact ⟨0, Nat.zero_le _, rfl, Lib.hid (by simp), rfl⟩
 case round =>
  obtain ⟨k, hk, rfl, HN, rfl⟩ := hrel
  by_cases hlt : k < xs.length
  ·obtain ⟨ad, rfl, d0⟩ := Kd.at_int HC.out (k : Int) (by omega) (by omega)
   have hq : rd xs (k : Int) = xs[k] := by simp [rd, hlt]
   have hT : (xs.take (k + 1)).any oddB = ((xs.take k).any oddB || oddB (rd xs (k : Int))) := by
    rw [hq, List.take_succ_eq_append_getElem hlt, List.any_append]
    simp
   have hA : oddB (rd xs (k : Int)) = true → xs.any oddB = true := fun h => List.any_eq_true.2 ⟨_, by rw [hq]; exact List.getElem_mem hlt, h⟩
   have HT := Lib.hid hT
   have HA := Lib.hid hA
   have HE := Lib.hid (HF.out (rd xs (k : Int)))
   simp only [Int.toNat_natCast] at d0
   clear hq hT hA
   generalize rd xs (k : Int) = q at *
   rcases Bool.eq_false_or_eq_true (oddB q) with hb | hb
   ·have HA' := Lib.hid (HA.out hb)
    rw [hb] at HE
    clear HA HT hb
    go_wp2_with fail
    refine HE.out.mono ?_
    rintro e w1 ⟨rfl, rfl⟩
    go_wp2
    go_ret
    exact ⟨⟨_, rfl, .inl ⟨by omega, HA'.out⟩⟩, rfl⟩
   ·have HT' := Lib.hid (show (xs.take (k + 1)).any oddB = false by rw [HT.out, HN.out, hb]; rfl)
    rw [hb] at HE
    clear HA HT hb
    go_wp2_with fail
    refine HE.out.mono ?_
    rintro e w1 ⟨rfl, rfl⟩
    go_wp2
    go_roundw
    case rel => exact ⟨k + 1, by omega, by go_num, HT', trivial⟩
    case measure => simp [intOf]; omega
  ·obtain rfl : k = xs.length := by omega
   have hN := HN.out
   rw [List.take_length] at hN
   have HN' := Lib.hid hN
   clear hN
   go_wp2
   go_ret
   exact ⟨⟨_, rfl, .inr ⟨rfl, HN'.out⟩⟩, rfl⟩
theorem ucontains_c (A : Option Addr) (c : Nat) (xs : List Int) (hx : xs.length ≤ 1000000) (w : World) (hC : (Kd.int .u32).C w A xs.length xs) :
  Calls Try.prog 117 #[.slice A xs.length c, .func (.func 116) #[] #[]] w fun e w' => e = .returned (.bool (xs.any oddB)) ∧ Below w.heap.size w w' := by
 have HI := Lib.hid (uindex_c A c xs hx w hC)
 clear hC
 go_enter Try.func117, Try.ntmps117
 go_wp2_with fail
 refine HI.out.mono ?_
 rintro e w1 ⟨⟨v, rfl, hv⟩, rfl⟩
 rcases hv with ⟨h0, h⟩ | ⟨rfl, h⟩
 ·have HH := Lib.hid h
  clear h
  go_wp2
  go_ret
  exact ⟨ret_b (by rw [HH.out]), Below.refl _ _⟩
 ·have HH := Lib.hid h
  clear h
  go_wp2
  go_ret
  exact ⟨ret_b (by rw [HH.out]), Below.refl _ _⟩
def rightB (B : BlkV) : Bool :=
 (List.range B.ops.length).all (fun k => opB B k) && ((List.range B.exits.length).all (fun n => leavesB B n) && (decide (0 < B.pcs.length) && (!(B.pcs.any oddB) && exitB B B.last B.ops.length)))
theorem rangeall_succ (k : Nat) (f : Nat → Bool) : (List.range (k + 1)).all f = ((List.range k).all f && f k) := by
 rw [List.range_succ, List.all_append]
 simp
theorem rangeall_no (n k : Nat) (f : Nat → Bool) (h : k < n) (hf : f k = false) : (List.range n).all f = false :=
 List.all_eq_false.2 ⟨k, List.mem_range.2 h, by simp [hf]⟩
set_option maxHeartbeats 4000000 in
theorem right_c (B : BlkV) (g : Nat) (w : World) (hB : BlockAt w g B) (hM : Maps B) (hP : B.pcs.length ≤ 1000000) (hO : B.ops.length ≤ 1000000) (hE : B.exits.length ≤ 1000000) :
  Calls Try.prog 87 #[.agg #[.pointer (some ⟨g, 0, none⟩)]] w fun e w' => e = .returned (.bool (rightB B)) ∧ Below w.heap.size w w' := by
 obtain ⟨A0, c0, pc0, k0⟩ := hB.pcs
 obtain ⟨A1, c1, pc1, k1⟩ := hB.ops
 obtain ⟨A2, c2, pc2, k2⟩ := hB.exits
 have pc3 := hB.last
 have hg : g < w.heap.size := World.block_lt_of_cell? w ⟨g, 1, none⟩ pc1
 have hg2 : ¬ g = w.heap.size := by omega
 have HO := Lib.hid (fun (k : Int) (h0 : 0 ≤ k) (h1 : k < (B.ops.length : Int)) v (hb : Below w.heap.size w v) => op_c B g k h0 h1 v (hB.below hb) hM)
 have HL := Lib.hid (fun (n : Int) (h0 : 0 ≤ n) (h1 : n < (B.exits.length : Int)) v (hb : Below w.heap.size w v) => leaves_c B g n h0 h1 v (hB.below hb) hM hP hO)
 have HU := Lib.hid (fun v (hb : Below w.heap.size w v) => ucontains_c A0 c0 B.pcs hP v (Kd.qn k0 hb))
 have HX := Lib.hid (fun v (hb : Below w.heap.size w v) => exit_c B g B.last (B.ops.length : Int) v (hB.below hb) hM)
 obtain ⟨V, hV⟩ : ∃ V, V = rightB B := ⟨_, rfl⟩
 rw [← hV]
 unfold rightB at hV
 have HVV := Lib.hid hV
 clear hV hB hM k0 k1 k2
 generalize hlp : B.pcs.length = lp at *
 generalize hlo : B.ops.length = lo at *
 generalize hle : B.exits.length = le at *
 generalize hfo : (fun k : Nat => opB B k) = fo at *
 generalize hfl : (fun n : Nat => leavesB B n) = fl at *
 have ho : ∀ k : Nat, opB B k = fo k := fun k => by rw [← hfo]
 have hl : ∀ k : Nat, leavesB B k = fl k := fun k => by rw [← hfl]
 have HOO := Lib.hid ho
 have HLL := Lib.hid hl
 clear ho hl hfo hfl
 go_enter Try.func87, Try.ntmps87
 go_wp2
 go_loopw [12] (fun i wr => ∃ j : Nat, j ≤ lo ∧ i = .int .i64 j ∧ Hid ((List.range j).all fo = true) ∧ Hid (Below w.heap.size w wr) ∧ wr.cell? ⟨w.heap.size, 0, none⟩ = some (.pointer (some ⟨g, 0, none⟩))) (fun i _ => lo - (intOf i).toNat)
 case atStart => exact ⟨0, Nat.zero_le _, rfl, Lib.hid (by simp), Lib.hid (bal (Below.refl _ _) _), by simp [go_sem]⟩
 case round =>
  obtain ⟨j, hj, rfl, HT, HB, x0⟩ := hrel
  by_cases hlt : j < lo
  ·have HE := Lib.hid (HO.out (j : Int) (by omega) (by omega) _ HB.out)
   rw [HOO.out j] at HE
   have HTT := Lib.hid (rangeall_succ j fo)
   have HN := Lib.hid (fun h => rangeall_no lo j fo hlt h)
   rcases Bool.eq_false_or_eq_true (fo j) with hb | hb
   ·have HT' := Lib.hid (show (List.range (j + 1)).all fo = true by rw [HTT.out, HT.out, hb]; rfl)
    rw [hb] at HE
    clear HTT HN hb
    go_wp2_with fail
    refine HE.out.mono ?_
    rintro e w1 ⟨rfl, hb1⟩
    have x1 := cellk hb1 x0
    have HB1 := Lib.hid (bthen HB.out hb1)
    clear hb1
    go_wp2
    go_roundw
    case rel => exact ⟨j + 1, by omega, by go_num, HT', HB1, x1⟩
    case measure => simp [intOf]; omega
   ·have HN' := Lib.hid (HN.out hb)
    rw [hb] at HE
    clear HTT HN hb
    go_wp2_with fail
    refine HE.out.mono ?_
    rintro e w1 ⟨rfl, hb1⟩
    have HB1 := Lib.hid (bthen HB.out hb1)
    clear hb1
    go_wp2
    go_ret
    exact ⟨ret_b (by rw [HVV.out, HN'.out, Bool.false_and]), HB1.out⟩
  ·have hjo : lo = j := by omega
   subst hjo
   have y1 := cellk HB.out pc2
   clear HO HOO
   go_wp2
   go_loopw [26] (fun i wr2 => ∃ j : Nat, j ≤ le ∧ i = .int .i64 j ∧ Hid ((List.range j).all fl = true) ∧ Hid (Below w.heap.size w wr2) ∧ wr2.cell? ⟨w.heap.size, 0, none⟩ = some (.pointer (some ⟨g, 0, none⟩))) (fun i _ => le - (intOf i).toNat)
   case atStart => exact ⟨0, Nat.zero_le _, rfl, Lib.hid (by simp), HB, x0⟩
   case round =>
    clear x0 HB y1
    obtain ⟨j, hj, rfl, HT2, HB, x0⟩ := hrel
    by_cases hlt : j < le
    ·have HE := Lib.hid (HL.out (j : Int) (by omega) (by omega) _ HB.out)
     rw [HLL.out j] at HE
     have HTT := Lib.hid (rangeall_succ j fl)
     have HN := Lib.hid (fun h => rangeall_no le j fl hlt h)
     rcases Bool.eq_false_or_eq_true (fl j) with hb | hb
     ·have HT' := Lib.hid (show (List.range (j + 1)).all fl = true by rw [HTT.out, HT2.out, hb]; rfl)
      rw [hb] at HE
      clear HTT HN hb
      go_wp2_with fail
      refine HE.out.mono ?_
      rintro e w1 ⟨rfl, hb1⟩
      have x1 := cellk hb1 x0
      have HB1 := Lib.hid (bthen HB.out hb1)
      clear hb1
      go_wp2
      go_roundw
      case rel => exact ⟨j + 1, by omega, by go_num, HT', HB1, x1⟩
      case measure => simp [intOf]; omega
     ·have HN' := Lib.hid (HN.out hb)
      rw [hb] at HE
      clear HTT HN hb
      go_wp2_with fail
      refine HE.out.mono ?_
      rintro e w1 ⟨rfl, hb1⟩
      have HB1 := Lib.hid (bthen HB.out hb1)
      clear hb1
      go_wp2
      go_ret
      exact ⟨ret_b (by rw [HVV.out, HN'.out, Bool.false_and, Bool.and_false]), HB1.out⟩
    ·have hje : le = j := by omega
     subst hje
     have y0 := cellk HB.out pc0
     have y1 := cellk HB.out pc1
     have y3 := cellk HB.out pc3
     have HV2 := Lib.hid (show V = (decide (0 < lp) && (!(B.pcs.any oddB) && exitB B B.last lo)) by rw [HVV.out, HT.out, HT2.out]; rfl)
     clear HL HLL HVV HT HT2
     generalize B.pcs.any oddB = u at *
     generalize exitB B B.last lo = x at *
     generalize B.last = last at *
     have hcase : (lp = 0 ∧ V = false) ∨ (0 < lp ∧ ((u = true ∧ V = false) ∨ (u = false ∧ V = x))) := by
      rw [HV2.out]
      by_cases h : 0 < lp
      ·cases u <;> simp [h]
      ·exact .inl ⟨by omega, by simp [h]⟩
     clear HV2
     rcases hcase with ⟨q0, rfl⟩ | ⟨q0, ⟨rfl, rfl⟩ | ⟨rfl, rfl⟩⟩
     ·have q1 : decide ((0 : Int) < (lp : Int)) = false := by simp [q0]
      go_wp2
      refine qF (by kernel_rfl) (by kernel_rfl) ?_
      intro S _ F hF hS
      have e0 := fcell hF (b := w.heap.size) (o := 0) (v := .pointer (some ⟨g, 0, none⟩)) x0
      have e1 := fcell hF (b := g) (o := 0) (v := .slice A0 lp c0) y0
      have e2 := fcell hF (b := g) (o := 1) (v := .slice A1 lo c1) y1
      have e3 := fcell hF (b := g) (o := 3) (v := .int .i64 last) y3
      have HRF : ∀ s, Hid (Below w.heap.size w (F s)) := fun s => Lib.hid (bthen HB.out (hF s))
      clear x0 y0 y1 y3
      repeat (go_big_quiet_step (first | (go_at_call 117; exact qbelow hS (HU.out _ (HRF _).out)) | (go_at_call 118; exact qbelow hS (HX.out _ (HRF _).out)) | fail))
      refine wpQuiet_nil ?_
      intro w2 hw2
      obtain ⟨s2, rfl⟩ := hw2
      have HB2 := Lib.hid (HRF s2).out
      clear e0 e1 e2 e3 hF hS HRF HX HU
      generalize F s2 = w2 at *
      go_wp2
      go_ret
      exact ⟨rfl, HB2.out⟩
     ·have q1 : (0 : Int) < (lp : Int) := by omega
      go_wp2
      refine qF (by kernel_rfl) (by kernel_rfl) ?_
      intro S _ F hF hS
      have e0 := fcell hF (b := w.heap.size) (o := 0) (v := .pointer (some ⟨g, 0, none⟩)) x0
      have e1 := fcell hF (b := g) (o := 0) (v := .slice A0 lp c0) y0
      have e2 := fcell hF (b := g) (o := 1) (v := .slice A1 lo c1) y1
      have e3 := fcell hF (b := g) (o := 3) (v := .int .i64 last) y3
      have HRF : ∀ s, Hid (Below w.heap.size w (F s)) := fun s => Lib.hid (bthen HB.out (hF s))
      clear x0 y0 y1 y3
      repeat (go_big_quiet_step (first | (go_at_call 117; exact qbelow hS (HU.out _ (HRF _).out)) | (go_at_call 118; exact qbelow hS (HX.out _ (HRF _).out)) | fail))
      refine wpQuiet_nil ?_
      intro w2 hw2
      obtain ⟨s2, rfl⟩ := hw2
      have HB2 := Lib.hid (HRF s2).out
      clear e0 e1 e2 e3 hF hS HRF HX HU
      generalize F s2 = w2 at *
      go_wp2
      go_ret
      exact ⟨rfl, HB2.out⟩
     ·have q1 : (0 : Int) < (lp : Int) := by omega
      go_wp2
      refine qF (by kernel_rfl) (by kernel_rfl) ?_
      intro S _ F hF hS
      have e0 := fcell hF (b := w.heap.size) (o := 0) (v := .pointer (some ⟨g, 0, none⟩)) x0
      have e1 := fcell hF (b := g) (o := 0) (v := .slice A0 lp c0) y0
      have e2 := fcell hF (b := g) (o := 1) (v := .slice A1 lo c1) y1
      have e3 := fcell hF (b := g) (o := 3) (v := .int .i64 last) y3
      have HRF : ∀ s, Hid (Below w.heap.size w (F s)) := fun s => Lib.hid (bthen HB.out (hF s))
      clear x0 y0 y1 y3
      repeat (go_big_quiet_step (first | (go_at_call 117; exact qbelow hS (HU.out _ (HRF _).out)) | (go_at_call 118; exact qbelow hS (HX.out _ (HRF _).out)) | fail))
      refine wpQuiet_nil ?_
      intro w2 hw2
      obtain ⟨s2, rfl⟩ := hw2
      have HB2 := Lib.hid (HRF s2).out
      clear e0 e1 e2 e3 hF hS HRF HX HU
      generalize F s2 = w2 at *
      go_wp2
      go_ret
      exact ⟨rfl, HB2.out⟩
end Go.Proofs.Ythjgakoofmmloaa

namespace Go.Proofs.Ythjgakoofmmloaa
open Go.RowKit Go.Proofs.YthjgakoofmmloaaW.PrintWords Go.Proofs.Ythjgakoofmmloaa.PNumberDoes
set_option linter.unusedVariables false
set_option linter.unusedSimpArgs false

def checkB (B : BlkV) : Int :=
 if 32 < B.pcs.length ∨ 512 < B.ops.length ∨ 128 < B.exits.length then 3 else if rightB B = true then 0 else 1
set_option maxHeartbeats 2000000 in
theorem check_c (B : BlkV) (g : Nat) (w : World) (hB : BlockAt w g B) (hM : Maps B) (hP : B.pcs.length ≤ 1000000) (hO : B.ops.length ≤ 1000000) (hE : B.exits.length ≤ 1000000) :
  Calls Try.prog 50 #[.pointer (some ⟨g, 0, none⟩)] w fun e w' => e = .returned (.int .i64 (checkB B)) ∧ Below w.heap.size w w' := by
 obtain ⟨A0, c0, pc0, k0⟩ := hB.pcs
 obtain ⟨A1, c1, pc1, k1⟩ := hB.ops
 obtain ⟨A2, c2, pc2, k2⟩ := hB.exits
 have HR := Lib.hid (right_c B g w hB hM hP hO hE)
 have hc : checkB B = if 32 < B.pcs.length ∨ 512 < B.ops.length ∨ 128 < B.exits.length then 3 else if rightB B = true then 0 else 1 := rfl
 rw [hc]
 clear hc hB hM k0 k1 k2
 generalize rightB B = r at *
 generalize B.pcs.length = lp at *
 generalize B.ops.length = lo at *
 generalize B.exits.length = le at *
 rcases (by omega : 32 < lp ∨ (lp ≤ 32 ∧ (512 < lo ∨ (lo ≤ 512 ∧ (128 < le ∨ le ≤ 128))))) with h0 | ⟨h0, h1 | ⟨h1, h2 | h2⟩⟩
 ·rw [if_pos (by omega)]
  go_enter Try.func50, Try.ntmps50
  go_wp2
  go_ret
  exact ⟨rfl, Below.refl _ _⟩
 ·rw [if_pos (by omega)]
  go_enter Try.func50, Try.ntmps50
  go_wp2
  go_ret
  exact ⟨rfl, Below.refl _ _⟩
 ·rw [if_pos (by omega)]
  go_enter Try.func50, Try.ntmps50
  go_wp2
  go_ret
  exact ⟨rfl, Below.refl _ _⟩
 ·rw [if_neg (by omega)]
  cases r
  ·go_enter Try.func50, Try.ntmps50
   go_wp2_with fail
   refine HR.out.mono ?_
   rintro e w1 ⟨rfl, hb1⟩
   have HB1 := Lib.hid hb1
   clear hb1
   go_wp2
   go_ret
   exact ⟨rfl, HB1.out⟩
  ·go_enter Try.func50, Try.ntmps50
   go_wp2_with fail
   refine HR.out.mono ?_
   rintro e w1 ⟨rfl, hb1⟩
   have HB1 := Lib.hid hb1
   clear hb1
   go_wp2
   go_ret
   exact ⟨rfl, HB1.out⟩
end Go.Proofs.Ythjgakoofmmloaa

namespace Go.Proofs.Ythjgakoofmmloaa
open Go.RowKit Go.Proofs.YthjgakoofmmloaaW.PrintWords Go.Proofs.Ythjgakoofmmloaa.PNumberDoes
set_option linter.unusedVariables false
set_option linter.unusedSimpArgs false

def opOf (o : S62) : S67 := ⟨o.f0, o.f1, o.f2, o.f3, o.f4, o.f5⟩
def valOf (v : S85) : S70 := ⟨v.f0, v.f1⟩
def exitOf (e : S65) : S73 := ⟨e.f0, e.f1, e.f2, e.f3, e.f4.map valOf⟩
def blkOf (pcs : List Int) (ops : List S62) (exits : List S65) (last : Int) : BlkV := ⟨pcs, ops.map opOf, exits.map exitOf, last⟩
theorem infoOp : (Try.prog.info? 67).map (fun i => (i.zero, i.size, i.bytes)) = some (some (.agg #[.int .i64 0, .int .i64 0, .int .i64 0, .int .u32 0, .int .i64 0, .int .i64 0]), 6, 48) := by kernel_rfl
theorem infoVal : (Try.prog.info? 70).map (fun i => (i.zero, i.size, i.bytes)) = some (some (.agg #[.int .i64 0, .int .i64 0]), 2, 16) := by kernel_rfl
theorem infoExit : (Try.prog.info? 73).map (fun i => (i.zero, i.size, i.bytes)) = some (some (.agg #[.int .i64 0, .int .u32 0, .int .i64 0, .int .i64 0, .slice none 0 0]), 5, 56) := by kernel_rfl
structure OwnSt (w wr : World) (a0 a1 a2 : Value) (last : Int) (v1 v2 : Value) : Prop where
 b0 : wr.heap[w.heap.size]? = some (.cells #[a0, a1, a2, .int .i64 last] 26 (0, 0))
 b1 : wr.heap[w.heap.size + 1]? = some (.cells #[a0, v1, v2, .int .i64 last] 76 (0, 0))
 bel : Below w.heap.size w wr
section
variable {w wr w1 : World} {a0 a1 a2 v1 v2 u : Value} {last : Int}
theorem OwnSt.c1 (h : OwnSt w wr a0 a1 a2 last v1 v2) : wr.cell? ⟨w.heap.size, 1, none⟩ = some a1 := by rw [qb h.b0]; rfl
theorem OwnSt.c2 (h : OwnSt w wr a0 a1 a2 last v1 v2) : wr.cell? ⟨w.heap.size, 2, none⟩ = some a2 := by rw [qb h.b0]; rfl
theorem OwnSt.d1 (h : OwnSt w wr a0 a1 a2 last v1 v2) : wr.cell? ⟨w.heap.size + 1, 1, none⟩ = some v1 := by rw [qb h.b1]; rfl
theorem OwnSt.d2 (h : OwnSt w wr a0 a1 a2 last v1 v2) : wr.cell? ⟨w.heap.size + 1, 2, none⟩ = some v2 := by rw [qb h.b1]; rfl
theorem OwnSt.f1 (h : OwnSt w wr a0 a1 a2 last v1 v2) (i : Nat) : wr.frozen? ⟨w.heap.size + 1, i, none⟩ = false := qa h.b1 i
theorem OwnSt.lt (h : OwnSt w wr a0 a1 a2 last v1 v2) : w.heap.size + 1 < wr.heap.size := qG h.b1
theorem OwnSt.below (h : OwnSt w wr a0 a1 a2 last v1 v2) (hb : Below wr.heap.size wr w1) : OwnSt w w1 a0 a1 a2 last v1 v2 := ⟨qo h.b0 hb, qo h.b1 hb, bthen h.bel hb⟩
theorem OwnSt.grown {row : Option Nat} (h : OwnSt w wr a0 a1 a2 last v1 v2) (hg : wr.grownBy w1 row) (hr : ∀ k, row = some k → w.heap.size + 1 < k) : OwnSt w w1 a0 a1 a2 last v1 v2 :=
 ⟨qM h.b0 hg (fun e => by have := hr _ e.symm; omega), qM h.b1 hg (fun e => by have := hr _ e.symm; omega), pw_below_grown h.bel row h.bel.size hg (fun k hk => by have := hr k hk; omega)⟩
theorem OwnSt.set1 (h : OwnSt w wr a0 a1 a2 last v1 v2) (u : Value) : OwnSt w (wr.setCell ⟨w.heap.size + 1, 1, none⟩ u) a0 a1 a2 last u v2 :=
 ⟨qp h.b0 (by simp) u, qC h.b1 1 u, bset h.bel (by simp) u⟩
theorem OwnSt.set2 (h : OwnSt w wr a0 a1 a2 last v1 v2) (u : Value) : OwnSt w (wr.setCell ⟨w.heap.size + 1, 2, none⟩ u) a0 a1 a2 last v1 u :=
 ⟨qp h.b0 (by simp) u, qC h.b1 2 u, bset h.bel (by simp) u⟩
end
theorem OwnSt.row {w wr : World} {a0 a1 a2 v1 v2 u : Value} {last : Int} {α : Type} {d : Kd α} {e : Nat} {ok : Nat → Prop} {xs : List α} (h : OwnSt w wr a0 a1 a2 last v1 v2) (hr : d.R e wr w.heap.size ok u xs) (h1 : e ≠ 26) (h2 : e ≠ 76) : ∀ k, u.ownBlock = some k → w.heap.size + 1 < k := by
 intro k hk
 have a := Kd.R_base hr k hk
 have b : some w.heap.size ≠ u.ownBlock := Kd.R_ne hr h.b0 h1
 have c : some (w.heap.size + 1) ≠ u.ownBlock := Kd.R_ne hr h.b1 h2
 rw [hk] at b c
 have b' : w.heap.size ≠ k := fun e => b (by rw [e])
 have c' : w.heap.size + 1 ≠ k := fun e => c (by rw [e])
 omega
structure OwnMp (w wr : World) (q : S65) (v4 vm : Value) : Prop where
 b0 : wr.heap[w.heap.size]? = some (.cells #[.int .i64 q.f0, .int .u32 q.f1, .int .i64 q.f2, .int .i64 q.f3, v4] 65 (0, 0))
 b1 : wr.heap[w.heap.size + 1]? = some (.cells #[.int .i64 q.f0, .int .u32 q.f1, .int .i64 q.f2, .int .i64 q.f3, vm] 73 (0, 0))
 bel : Below w.heap.size w wr
section
variable {w wr w1 : World} {q : S65} {v4 vm u : Value}
theorem OwnMp.c4 (h : OwnMp w wr q v4 vm) : wr.cell? ⟨w.heap.size, 4, none⟩ = some v4 := by rw [qb h.b0]; rfl
theorem OwnMp.d0 (h : OwnMp w wr q v4 vm) : wr.cell? ⟨w.heap.size + 1, 0, none⟩ = some (.int .i64 q.f0) := by rw [qb h.b1]; rfl
theorem OwnMp.d1 (h : OwnMp w wr q v4 vm) : wr.cell? ⟨w.heap.size + 1, 1, none⟩ = some (.int .u32 q.f1) := by rw [qb h.b1]; rfl
theorem OwnMp.d2 (h : OwnMp w wr q v4 vm) : wr.cell? ⟨w.heap.size + 1, 2, none⟩ = some (.int .i64 q.f2) := by rw [qb h.b1]; rfl
theorem OwnMp.d3 (h : OwnMp w wr q v4 vm) : wr.cell? ⟨w.heap.size + 1, 3, none⟩ = some (.int .i64 q.f3) := by rw [qb h.b1]; rfl
theorem OwnMp.d4 (h : OwnMp w wr q v4 vm) : wr.cell? ⟨w.heap.size + 1, 4, none⟩ = some vm := by rw [qb h.b1]; rfl
theorem OwnMp.f4 (h : OwnMp w wr q v4 vm) (i : Nat) : wr.frozen? ⟨w.heap.size + 1, i, none⟩ = false := qa h.b1 i
theorem OwnMp.lt (h : OwnMp w wr q v4 vm) : w.heap.size + 1 < wr.heap.size := qG h.b1
theorem OwnMp.below (h : OwnMp w wr q v4 vm) (hb : Below wr.heap.size wr w1) : OwnMp w w1 q v4 vm := ⟨qo h.b0 hb, qo h.b1 hb, bthen h.bel hb⟩
theorem OwnMp.grown {row : Option Nat} (h : OwnMp w wr q v4 vm) (hg : wr.grownBy w1 row) (hr : ∀ k, row = some k → w.heap.size + 1 < k) : OwnMp w w1 q v4 vm :=
 ⟨qM h.b0 hg (fun e => by have := hr _ e.symm; omega), qM h.b1 hg (fun e => by have := hr _ e.symm; omega), pw_below_grown h.bel row h.bel.size hg (fun k hk => by have := hr k hk; omega)⟩
theorem OwnMp.set4 (h : OwnMp w wr q v4 vm) (u : Value) : OwnMp w (wr.setCell ⟨w.heap.size + 1, 4, none⟩ u) q v4 u :=
 ⟨qp h.b0 (by simp) u, qC h.b1 4 u, bset h.bel (by simp) u⟩
theorem OwnMp.row {α : Type} {d : Kd α} {e : Nat} {ok : Nat → Prop} {xs : List α} (h : OwnMp w wr q v4 vm) (hr : d.R e wr w.heap.size ok u xs) (h1 : e ≠ 65) (h2 : e ≠ 73) : ∀ k, u.ownBlock = some k → w.heap.size + 1 < k := by
 intro k hk
 have a := Kd.R_base hr k hk
 have b : some w.heap.size ≠ u.ownBlock := Kd.R_ne hr h.b0 h1
 have c : some (w.heap.size + 1) ≠ u.ownBlock := Kd.R_ne hr h.b1 h2
 rw [hk] at b c
 have b' : w.heap.size ≠ k := fun e => b (by rw [e])
 have c' : w.heap.size + 1 ≠ k := fun e => c (by rw [e])
 omega
end
theorem take_map {α β : Type} (f : α → β) (xs : List α) (k : Nat) (h : k < xs.length) : (xs.map f).take (k + 1) = (xs.map f).take k ++ [f xs[k]] := by
 rw [List.take_succ_eq_append_getElem (by simpa using h)]
 simp
set_option maxHeartbeats 8000000 in
theorem own_c (A0 A1 A2 : Option Addr) (n0 n1 n2 c0 c1 c2 : Nat) (last : Int) (pcs : List Int) (ops : List S62) (exits : List S65) (h0 : pcs.length = n0) (h1 : ops.length = n1) (h2 : exits.length = n2) (hl1 : ops.length ≤ 1000000) (hl2 : exits.length ≤ 1000000) (hM : ∀ x ∈ exits, x.f4.length ≤ 1000000) (w : World)
  (hC0 : (Kd.int .u32).C w A0 n0 pcs) (hC1 : k62.C w A1 n1 ops) (hC2 : k65.C w A2 n2 exits) :
  Calls Try.prog 20 #[.agg #[.slice A0 n0 c0, .slice A1 n1 c1, .slice A2 n2 c2, .int .i64 last]] w fun e w' => e = .returned (.pointer (some ⟨w.heap.size + 1, 0, none⟩)) ∧ BlockAt w' (w.heap.size + 1) (blkOf pcs ops exits last) ∧ Below w.heap.size w w' := by
 subst h0 h1 h2
 have HC0 := Lib.hid hC0
 have HC1 := Lib.hid hC1
 have HC2 := Lib.hid hC2
 have HMM := Lib.hid hM
 clear hC0 hC1 hC2 hM
 go_enter Try.func20, Try.ntmps20
 go_wp2
 go_loopw [4] (fun i wr => ∃ k : Nat, k ≤ ops.length ∧ i = .int .i64 k ∧ ∃ v1, Hid (OwnSt w wr (.slice A0 pcs.length c0) (.slice A1 ops.length c1) (.slice A2 exits.length c2) last v1 (.slice none 0 0)) ∧ Hid (Kd.R k67 67 wr w.heap.size (fun _ => True) v1 ((ops.map opOf).take k))) (fun i _ => ops.length - (intOf i).toNat)
 case atStart =>
  refine ⟨0, Nat.zero_le _, rfl, .slice none 0 0, Lib.hid ⟨?_, ?_, ?_⟩, Lib.hid (Kd.R_nil _ _ _ _ _)⟩
  ·exact qf (qD _ _) _
  ·simpa using qD (w.alloc _) _
  ·exact bal (bal (Below.refl _ _) _) _
 case round =>
  obtain ⟨k, hk, rfl, v1, HS, HR⟩ := hrel
  have e1 := HS.out.c1
  have e2 := HS.out.d1
  have e3 := HS.out.f1 1
  have hlt0 := HS.out.lt
  have hn0 : ¬ w.heap.size = wr.heap.size := by omega
  have hn1 : ¬ w.heap.size + 1 = wr.heap.size := by omega
  by_cases hlt : k < ops.length
  ·obtain ⟨ad, rfl, d0, d1, d2, d3, d4, d5⟩ := at_T62 (Kd.qn HC1.out HS.out.bel) (k : Int) (by omega) (by omega)
   have hq : qk ops (k : Int) = ops[k] := by simp [qk, hlt]
   have HT := Lib.hid (take_map opOf ops k hlt)
   rw [← hq] at HT
   simp only [Int.toNat_natCast] at d0 d1 d2 d3 d4 d5
   clear hq
   generalize qk ops (k : Int) = q at *
   have HLEN := Lib.hid (show ((ops.map opOf).take k ++ [opOf q]).length = k + 1 by simp; omega)
   go_wp2
   have HS' := Lib.hid (HS.out.below (bdn (Below.refl _ _) 1))
   have HR' := Lib.hid (Kd.R_drew HR.out)
   go_region_law (refine Kd.R_append_step k67 (w0 := w) w.heap.size rfl (.tmp 26) (.tmp 32) 68 67 (.agg #[.int .i64 0, .int .i64 0, .int .i64 0, .int .u32 0, .int .i64 0, .int .i64 0]) 48 rfl Try.underlying68 infoOp rfl (by decide) (by decide) v1 ((ops.map opOf).take k) (opOf q) [.int .i64 q.f0, .int .i64 q.f1, .int .i64 q.f2, .int .u32 q.f3, .int .i64 q.f4, .int .i64 q.f5] (fun _ => True) (fun _ => False) rfl rfl (k67_mkM _ _ _ _) (fun _ hk => hk.elim) (fun _ _ => trivial) HR'.out HS'.out.bel HS'.out.bel.size (by simp; omega) ?_; intro v3 w3 ho3 hb3 hg3 hat3; have HS3 := Lib.hid (HS'.out.grown hg3 (HS'.out.row HR'.out (by decide) (by decide))); obtain ⟨A3, c3, hv3⟩ := Kd.R_slice ho3; rw [HLEN.out] at hv3; subst hv3; have HR3 := Lib.hid ho3; have e5 := HS3.out.d1; have e6 := HS3.out.f1 1; clear ho3 hb3 hg3 hat3)
   all_goals
    go_wp2
    go_roundw
    case rel => exact ⟨k + 1, by omega, by go_num, _, Lib.hid (HS3.out.set1 _), Lib.hid (by rw [HT.out]; exact Kd.R_set HR3.out HS3.out.b1 (by decide) 1 _)⟩
    case measure => simp [intOf]; omega
  ·have hke : ops.length = k := by omega
   have hR := HR.out
   rw [← hke, show ops.length = (ops.map opOf).length by simp, List.take_length] at hR
   have HR1 := Lib.hid hR
   have e4 := HS.out.c2
   clear hR HR e2 e3
   go_wp2
   go_loopw [5] (fun i wr2 => ∃ k : Nat, k ≤ exits.length ∧ i = .int .i64 k ∧ ∃ v2, Hid (OwnSt w wr2 (.slice A0 pcs.length c0) (.slice A1 ops.length c1) (.slice A2 exits.length c2) last v1 v2) ∧ Hid (Kd.R k67 67 wr2 w.heap.size (fun _ => True) v1 (ops.map opOf)) ∧ Hid (Kd.R k73 73 wr2 w.heap.size (fun _ => True) v2 ((exits.map exitOf).take k))) (fun i _ => exits.length - (intOf i).toNat)
   case atStart => exact ⟨0, Nat.zero_le _, rfl, .slice none 0 0, HS, HR1, Lib.hid (Kd.R_nil _ _ _ _ _)⟩
   case round =>
    clear HS HR1 e1 e4 hlt0 hn0 hn1 hlt hk hke
    obtain ⟨k, hk, rfl, v2, HS, HR1, HR2⟩ := hrel
    obtain ⟨wm, hwm⟩ : ∃ wm, wm = wr := ⟨_, rfl⟩
    subst hwm
    have e4 := HS.out.c2
    by_cases hlt : k < exits.length
    ·obtain ⟨ad, A4, c4, rfl, d0, d1, d2, d3, d4, l4, k4⟩ := at_T65 (Kd.qn HC2.out HS.out.bel) (k : Int) (by omega) (by omega)
     have hq : qj exits (k : Int) = exits[k] := by simp [qj, hlt]
     have HT := Lib.hid (take_map exitOf exits k hlt)
     have hm := HMM.out exits[k] (List.getElem_mem hlt)
     rw [← hq] at HT hm
     simp only [Int.toNat_natCast] at d0 d1 d2 d3 d4
     have HK4 := Lib.hid k4
     clear hq k4
     generalize qj exits (k : Int) = q at *
     go_wp2
     go_loopw [8] (fun i wr3 => ∃ j : Nat, j ≤ q.f4.length ∧ i = .int .i64 j ∧ ∃ vm, Hid (OwnMp wm wr3 q (.slice A4 q.f4.length c4) vm) ∧ Hid (Kd.R k70 70 wr3 wm.heap.size (fun _ => True) vm ((q.f4.map valOf).take j))) (fun i _ => q.f4.length - (intOf i).toNat)
     case atStart =>
      refine ⟨0, Nat.zero_le _, rfl, .slice none 0 0, Lib.hid ⟨?_, ?_, ?_⟩, Lib.hid (Kd.R_nil _ _ _ _ _)⟩
      ·exact qf (qD _ _) _
      ·simpa using qD (wm.alloc _) _
      ·exact bal (bal (Below.refl _ _) _) _
     case round =>
      obtain ⟨j, hj, rfl, vm, HP, HRm⟩ := hrel
      have g0 := HP.out.c4
      have hl0 := HP.out.lt
      have hl1' := HS.out.lt
      have hn0 : ¬ wm.heap.size = wr.heap.size := by omega
      have hn1 : ¬ wm.heap.size + 1 = wr.heap.size := by omega
      have hn2 : ¬ w.heap.size + 1 = wr.heap.size := by omega
      have hl3 : w.heap.size + 1 < wr.heap.size := by omega
      by_cases hlt2 : j < q.f4.length
      ·have g1 := HP.out.d4
       have g2 := HP.out.f4 4
       obtain ⟨ad2, rfl, x0, x1⟩ := at_T85 (Kd.qn HK4.out HP.out.bel) (j : Int) (by omega) (by omega)
       have hq : qH q.f4 (j : Int) = q.f4[j] := by simp [qH, hlt2]
       have HT2 := Lib.hid (take_map valOf q.f4 j hlt2)
       rw [← hq] at HT2
       simp only [Int.toNat_natCast] at x0 x1
       clear hq
       generalize qH q.f4 (j : Int) = y at *
       have HLEN := Lib.hid (show ((q.f4.map valOf).take j ++ [valOf y]).length = j + 1 by simp; omega)
       go_wp2
       have HP' := Lib.hid (HP.out.below (bdn (Below.refl _ _) 1))
       have HR' := Lib.hid (Kd.R_drew HRm.out)
       go_region_law (refine Kd.R_append_step k70 (w0 := wm) wm.heap.size rfl (.tmp 65) (.tmp 71) 71 70 (.agg #[.int .i64 0, .int .i64 0]) 16 rfl Try.underlying71 infoVal rfl (by decide) (by decide) vm ((q.f4.map valOf).take j) (valOf y) [.int .i64 y.f0, .int .i64 y.f1] (fun _ => True) (fun _ => False) rfl rfl (k70_mkM _ _ _ _) (fun _ hk => hk.elim) (fun _ _ => trivial) HR'.out HP'.out.bel HP'.out.bel.size (by simp; omega) ?_; intro v3 w3 ho3 hb3 hg3 hat3; have HP3 := Lib.hid (HP'.out.grown hg3 (HP'.out.row HR'.out (by decide) (by decide))); obtain ⟨A3, c3, hv3⟩ := Kd.R_slice ho3; rw [HLEN.out] at hv3; subst hv3; have HR3 := Lib.hid ho3; have e5 := HP3.out.d4; have e6 := HP3.out.f4 4; clear ho3 hb3 hg3 hat3)
       all_goals
        go_wp2
        go_roundw
        case rel => exact ⟨j + 1, by omega, by go_num, _, Lib.hid (HP3.out.set4 _), Lib.hid (by rw [HT2.out]; exact Kd.R_set HR3.out HP3.out.b1 (by decide) 4 _)⟩
        case measure => simp [intOf]; omega
      ·have hje : q.f4.length = j := by omega
       have hRm := HRm.out
       rw [← hje, show q.f4.length = (q.f4.map valOf).length by simp, List.take_length] at hRm
       have hokp : Kd.R k70 70 wr w.heap.size (fun k => wm.heap.size ≤ k) vm (q.f4.map valOf) := Kd.R_mono (Kd.R_lower (Kd.R_bound hRm) HS.out.bel.size) (fun k hk => hk.2.1)
       obtain ⟨Am, cm, hvm⟩ := Kd.R_slice hRm
       rw [List.length_map] at hvm
       subst hvm
       have HRm1 := Lib.hid (Kd.R_drew hokp)
       have HS' := Lib.hid ((HS.out.below HP.out.bel).below (bdn (Below.refl _ _) 1))
       have HR1' := Lib.hid (Kd.R_drew (Kd.qO HR1.out HP.out.bel))
       have HR2' := Lib.hid (Kd.R_drew (Kd.qO HR2.out HP.out.bel))
       have HLT2 := Lib.hid (fun k hk => Kd.R_lt HR2.out k hk)
       have HLEN := Lib.hid (show ((exits.map exitOf).take k ++ [exitOf q]).length = k + 1 by simp; omega)
       have i0 := HP.out.d0
       have i1 := HP.out.d1
       have i2 := HP.out.d2
       have i3 := HP.out.d3
       have i4 := HP.out.d4
       have i5 := (HS.out.below HP.out.bel).d2
       have i6 := (HS.out.below HP.out.bel).f1 2
       clear hje hRm hokp HRm e4 d0 d1 d2 d3 d4
       go_wp2
       go_region_law (refine Kd.R_append_step k73 (w0 := w) w.heap.size rfl (.tmp 78) (.tmp 80) 74 73 (.agg #[.int .i64 0, .int .u32 0, .int .i64 0, .int .i64 0, .slice none 0 0]) 56 rfl Try.underlying74 infoExit rfl (by decide) (by decide) v2 ((exits.map exitOf).take k) (exitOf q) [.int .i64 q.f0, .int .u32 q.f1, .int .i64 q.f2, .int .i64 q.f3, .slice Am q.f4.length cm] (fun _ => True) (fun k => wm.heap.size ≤ k) rfl rfl (k73_mkM _ _ _ _ HRm1.out) (fun k hk => ⟨trivial, fun e => by have := HLT2.out k e.symm; omega⟩) (fun _ _ => trivial) HR2'.out HS'.out.bel HS'.out.bel.size (by simp; omega) ?_; intro v3 w3 ho3 hb3 hg3 hat3; have HS3 := Lib.hid (HS'.out.grown hg3 (HS'.out.row HR2'.out (by decide) (by decide))); have HR13 := Lib.hid (Kd.R_over HR1'.out HR2'.out (by decide) hg3); obtain ⟨A3, c3, hv3⟩ := Kd.R_slice ho3; rw [HLEN.out] at hv3; subst hv3; have HR3 := Lib.hid ho3; have e5 := HS3.out.d2; have e6 := HS3.out.f1 2; clear ho3 hb3 hg3 hat3)
       all_goals
        go_wp2
        go_roundw
        case rel => exact ⟨k + 1, by omega, by go_num, _, Lib.hid (HS3.out.set2 _), Lib.hid (Kd.R_set HR13.out HS3.out.b1 (by decide) 2 _), Lib.hid (by rw [HT.out]; exact Kd.R_set HR3.out HS3.out.b1 (by decide) 2 _)⟩
        case measure => simp [intOf]; omega
    ·have hke : exits.length = k := by omega
     have hR := HR2.out
     rw [← hke, show exits.length = (exits.map exitOf).length by simp, List.take_length] at hR
     have HR2' := Lib.hid hR
     clear hR
     go_wp2
     go_ret
     refine ⟨rfl, ?_, HS.out.bel⟩
     obtain ⟨P1, C1, rfl, -, hc1⟩ := Kd.R_reads HR1.out
     obtain ⟨P2, C2, rfl, -, hc2⟩ := Kd.R_reads HR2'.out
     exact ⟨⟨A0, c0, by rw [qb HS.out.b1]; rfl, Kd.qn HC0.out HS.out.bel⟩, ⟨P1, C1, HS.out.d1, hc1⟩, ⟨P2, C2, HS.out.d2, hc2⟩, by rw [qb HS.out.b1]; rfl⟩
end Go.Proofs.Ythjgakoofmmloaa
