/- Contract of the reference's Text of layer 5, form by form. Conditions: numbers are of their kinds; the instruction is right. -/
import Derived.Test.YtnooikjkjcflbadDoorUn
namespace Go.Proofs.YtnooikjkjcflbadDoor
open Go.RowKit Go.Proofs.YtnooikjkjcflbadDoorW.PrintWords Go.Proofs.YtnooikjkjcflbadDoorW.PrintLast Go.Proofs.YtnooikjkjcflbadDoorW.PrintMore Go.Proofs.YtnooikjkjcflbadDoor.PDisasmWords
set_option linter.unusedVariables false
set_option linter.unusedSimpArgs false

set_option maxHeartbeats 8000000 in
set_option maxRecDepth 100000 in
theorem rtext_f0 (k : Nat) (hk : k < 58) (rd rs1 rs2 imm csr : Int) (n : ByteArray) (hnm : nameAt k = n) (hn : n.size ≤ 100) (h0 : ¬ (k : Int) = 0) (hrd : I64 rd) (hrs1 : I64 rs1) (hrs2 : I64 rs2) (hcsr : I64 csr) (hi : 0 ≤ imm ∧ imm ≤ 4294967295) (W : World)
    (HR : Hid (∀ v, Calls Tryd.prog 51 #[.agg #[.int .i64 (k : Int), .int .i64 rd, .int .i64 rs1, .int .i64 rs2, .int .u32 imm, .int .i64 csr]] v fun e w' => e = .returned (.bool true) ∧ Below v.heap.size v w'))
    (HF : Hid (∀ v, Calls Tryd.prog 54 #[.int .i64 (k : Int)] v fun e w' => e = .returned (.int .i64 0) ∧ v = w')) :
    Calls Tryd.prog 23 #[.agg #[.int .i64 (k : Int), .int .i64 rd, .int .i64 rs1, .int .i64 rs2, .int .u32 imm, .int .i64 csr]] W fun e w' => e = .returned (.tuple #[.string n, .bool true]) ∧ Below W.heap.size W w' := by
  have k0 := nb h0
  clear h0
  have HNM := Lib.hid (fun v => nm_cell k hk v 9)
  rw [hnm] at HNM
  have HSG := Lib.hid (fun v => rsigned_c imm hi v)
  have GS := Lib.hid (fun v => rnumber_c (wrap32 imm) (w32_i64 imm hi) v)
  have zS := numS_size _ (w32_i64 imm hi)
  generalize numS (wrap32 imm) = sx at *
  generalize wrap32 imm = sg at *
  clear hnm hn zS hrd hrs1 hrs2 hcsr hi
  have i1 : (0 : Int) ≤ (k : Int) := by omega
  have i2 : (k : Int) < 58 := by omega
  have hbw := bal (Below.refl W.heap.size W) (.cells #[.int .i64 (k : Int), .int .i64 rd, .int .i64 rs1, .int .i64 rs2, .int .u32 imm, .int .i64 csr] 53)
  have HBW := Lib.hid hbw
  clear hbw
  go_enter Tryd.func23, Tryd.ntmps23
  go_wp2_with fail
  refine (HR.out _).mono ?_
  rintro e w1 ⟨rfl, hb1⟩
  have hc := (bcf hb1).1
  have HB1 := Lib.hid (bthen HBW.out hb1)
  have z1 : W.heap.size < w1.heap.size := by have := hb1.size; simp at this; omega
  have c0 := (hc W.heap.size 0 (by simp)).trans (show _ = some (.int .i64 (k : Int)) by simp [go_sem])
  have c1 := (hc W.heap.size 1 (by simp)).trans (show _ = some (.int .i64 rd) by simp [go_sem])
  have c2 := (hc W.heap.size 2 (by simp)).trans (show _ = some (.int .i64 rs1) by simp [go_sem])
  have c3 := (hc W.heap.size 3 (by simp)).trans (show _ = some (.int .i64 rs2) by simp [go_sem])
  have c4 := (hc W.heap.size 4 (by simp)).trans (show _ = some (.int .u32 imm) by simp [go_sem])
  have c5 := (hc W.heap.size 5 (by simp)).trans (show _ = some (.int .i64 csr) by simp [go_sem])
  clear hb1 hc
  go_wp2
  refine wp_region_fc (by kernel_rfl) (by kernel_rfl) [.mem (fun g => .slice (some ⟨g, 0, none⟩) 58 58) [(k, .string n)], .is (.pointer (some ⟨W.heap.size, 0, none⟩)), .is (.int .i64 (k : Int)), .mem (fun g => .pointer (some ⟨g, k, none⟩)) [(k, .string n)], .is (.string n), .is (.string n)] ?_ ?_
  · intro vs w' hb'
    have q0 := (hb'.cell (p := ⟨W.heap.size, 0, none⟩) z1).trans c0
    clear c0 c1 c2 c3 c4 c5
    simp only [factSteps, putAll, Act.put, List.setIfInBounds_toArray, List.set_cons_zero, List.set_cons_succ]
    refine ⟨?_, ?_, ?_, ?_, ?_, ?_, trivial⟩
    all_goals
      intro he
      simp only [factEdges, Region.binds, List.getD_cons_zero, List.getD_cons_succ, Fc.holds, cellsAt, true_implies, and_true] at he
      try (obtain ⟨⟨g, hg, hcs⟩, he⟩ := he; simp only [hg])
      try (obtain ⟨g, hg, hcs⟩ := he; simp only [hg])
      try simp only [he]
      go_wp2_with (go_at_call 52; refine (rnames2_c _).mono ?_; rintro e w5 ⟨rfl, rfl⟩)
      first
        | exact ⟨rfl, Below.refl _ _⟩
        | exact rfl
        | exact ⟨⟨_, rfl, HNM.out _, trivial⟩, bal (Below.refl _ _) _⟩
        | exact ⟨⟨_, rfl, hcs, trivial⟩, Below.refl _ _⟩
  · intro vs w3 hb' hall
    simp only [factSteps, List.getD_cons_zero, List.getD_cons_succ, Fc.holds, cellsAt, and_true] at hall
    obtain ⟨⟨g0, a0, -⟩, a1, a2, ⟨g3, a3, -⟩, a4, a5⟩ := hall
    have e0 := (hb'.cell (p := ⟨W.heap.size, 0, none⟩) z1).trans c0
    have e1 := (hb'.cell (p := ⟨W.heap.size, 1, none⟩) z1).trans c1
    have e2 := (hb'.cell (p := ⟨W.heap.size, 2, none⟩) z1).trans c2
    have e3 := (hb'.cell (p := ⟨W.heap.size, 3, none⟩) z1).trans c3
    have e4 := (hb'.cell (p := ⟨W.heap.size, 4, none⟩) z1).trans c4
    have e5 := (hb'.cell (p := ⟨W.heap.size, 5, none⟩) z1).trans c5
    have HB3 := Lib.hid (bthen HB1.out hb')
    simp only [putAll, Act.put, List.setIfInBounds_toArray, List.set_cons_zero, List.set_cons_succ, a0, a1, a2, a3, a4, a5]
    clear c0 c1 c2 c3 c4 c5 a0 a1 a2 a3 a4 a5 hb' HNM z1
    go_wp2_with (first | (go_at_call 53; with_reducible refine Calls.mono (HSG.out _) ?_; rintro e w' ⟨rfl, ⟨na, rfl⟩⟩) | (go_at_call 18; with_reducible refine Calls.mono (GS.out _) ?_; rintro e w' ⟨rfl, ⟨nb', rfl⟩⟩) | (go_at_call 54; with_reducible refine Calls.mono (HF.out _) ?_; rintro e w' ⟨rfl, rfl⟩))
    go_ret2
    exact ⟨rfl, by repeat (first | (with_reducible exact HB3.out) | (with_reducible refine bdn ?_ _) | (with_reducible refine bal ?_ _))⟩
set_option maxHeartbeats 8000000 in
set_option maxRecDepth 100000 in
theorem rtext_f1 (k : Nat) (hk : k < 58) (rd rs1 rs2 imm csr : Int) (n : ByteArray) (hnm : nameAt k = n) (hn : n.size ≤ 100) (h0 : ¬ (k : Int) = 0) (hrd : I64 rd) (hrs1 : I64 rs1) (hrs2 : I64 rs2) (hcsr : I64 csr) (hi : 0 ≤ imm ∧ imm ≤ 4294967295) (W : World)
    (HR : Hid (∀ v, Calls Tryd.prog 51 #[.agg #[.int .i64 (k : Int), .int .i64 rd, .int .i64 rs1, .int .i64 rs2, .int .u32 imm, .int .i64 csr]] v fun e w' => e = .returned (.bool true) ∧ Below v.heap.size v w'))
    (HF : Hid (∀ v, Calls Tryd.prog 54 #[.int .i64 (k : Int)] v fun e w' => e = .returned (.int .i64 1) ∧ v = w')) :
    Calls Tryd.prog 23 #[.agg #[.int .i64 (k : Int), .int .i64 rd, .int .i64 rs1, .int .i64 rs2, .int .u32 imm, .int .i64 csr]] W fun e w' => e = .returned (.tuple #[.string ((((n ++ (⟨#[32]⟩ : ByteArray)) ++ (regS rd)) ++ (⟨#[44, 32]⟩ : ByteArray)) ++ (numS (imm / 4096))), .bool true]) ∧ Below W.heap.size W w' := by
  have k0 := nb h0
  clear h0
  have HNM := Lib.hid (fun v => nm_cell k hk v 9)
  rw [hnm] at HNM
  have HSG := Lib.hid (fun v => rsigned_c imm hi v)
  have GS := Lib.hid (fun v => rnumber_c (wrap32 imm) (w32_i64 imm hi) v)
  have zS := numS_size _ (w32_i64 imm hi)
  have Grd := Lib.hid (fun v => rregister_c rd hrd v)
  have zrd := regS_size rd hrd
  have GU := Lib.hid (fun v => rnumber_c (imm / 4096) ⟨by omega, by omega⟩ v)
  have zU := numS_size (imm / 4096) ⟨by omega, by omega⟩
  have td : Int.tdiv imm 4096 = imm / 4096 := Int.tdiv_eq_ediv_of_nonneg hi.1
  have ta : IntKind.u32.wrap (imm / 4096) = imm / 4096 := IntWalk.u32_in _ ⟨by omega, by omega⟩
  have tb : IntKind.i64.wrap (imm / 4096) = imm / 4096 := IntWalk.i64_in _ ⟨by omega, by omega⟩
  have tc : wrap64 (imm / 4096) = imm / 4096 := by unfold wrap64; omega
  generalize numS (wrap32 imm) = sx at *
  generalize wrap32 imm = sg at *
  generalize regS rd = sd at *
  generalize numS (imm / 4096) = su at *
  have t0 : n.size + 1 ≤ 9223372036854775807 := by omega
  have u0 : n.size + 1 ≤ 9223372036854775807 := by
    exact t0
  have t1 : n.size + 1 + sd.size ≤ 9223372036854775807 := by omega
  have u1 : (n ++ (⟨#[32]⟩ : ByteArray)).size + sd.size ≤ 9223372036854775807 := by
    simp only [ByteArray.size_append]
    exact t1
  have t2 : n.size + 1 + sd.size + 2 ≤ 9223372036854775807 := by omega
  have u2 : ((n ++ (⟨#[32]⟩ : ByteArray)) ++ sd).size + 2 ≤ 9223372036854775807 := by
    simp only [ByteArray.size_append]
    exact t2
  have t3 : n.size + 1 + sd.size + 2 + su.size ≤ 9223372036854775807 := by omega
  have u3 : (((n ++ (⟨#[32]⟩ : ByteArray)) ++ sd) ++ (⟨#[44, 32]⟩ : ByteArray)).size + su.size ≤ 9223372036854775807 := by
    simp only [ByteArray.size_append]
    exact t3
  clear hnm hn zS hrd hrs1 hrs2 hcsr hi zrd zU
  have i1 : (0 : Int) ≤ (k : Int) := by omega
  have i2 : (k : Int) < 58 := by omega
  have hbw := bal (Below.refl W.heap.size W) (.cells #[.int .i64 (k : Int), .int .i64 rd, .int .i64 rs1, .int .i64 rs2, .int .u32 imm, .int .i64 csr] 53)
  have HBW := Lib.hid hbw
  clear hbw
  go_enter Tryd.func23, Tryd.ntmps23
  go_wp2_with fail
  refine (HR.out _).mono ?_
  rintro e w1 ⟨rfl, hb1⟩
  have hc := (bcf hb1).1
  have HB1 := Lib.hid (bthen HBW.out hb1)
  have z1 : W.heap.size < w1.heap.size := by have := hb1.size; simp at this; omega
  have c0 := (hc W.heap.size 0 (by simp)).trans (show _ = some (.int .i64 (k : Int)) by simp [go_sem])
  have c1 := (hc W.heap.size 1 (by simp)).trans (show _ = some (.int .i64 rd) by simp [go_sem])
  have c2 := (hc W.heap.size 2 (by simp)).trans (show _ = some (.int .i64 rs1) by simp [go_sem])
  have c3 := (hc W.heap.size 3 (by simp)).trans (show _ = some (.int .i64 rs2) by simp [go_sem])
  have c4 := (hc W.heap.size 4 (by simp)).trans (show _ = some (.int .u32 imm) by simp [go_sem])
  have c5 := (hc W.heap.size 5 (by simp)).trans (show _ = some (.int .i64 csr) by simp [go_sem])
  clear hb1 hc
  go_wp2
  refine wp_region_fc (by kernel_rfl) (by kernel_rfl) [.mem (fun g => .slice (some ⟨g, 0, none⟩) 58 58) [(k, .string n)], .is (.pointer (some ⟨W.heap.size, 0, none⟩)), .is (.int .i64 (k : Int)), .mem (fun g => .pointer (some ⟨g, k, none⟩)) [(k, .string n)], .is (.string n), .is (.string n)] ?_ ?_
  · intro vs w' hb'
    have q0 := (hb'.cell (p := ⟨W.heap.size, 0, none⟩) z1).trans c0
    clear c0 c1 c2 c3 c4 c5
    simp only [factSteps, putAll, Act.put, List.setIfInBounds_toArray, List.set_cons_zero, List.set_cons_succ]
    refine ⟨?_, ?_, ?_, ?_, ?_, ?_, trivial⟩
    all_goals
      intro he
      simp only [factEdges, Region.binds, List.getD_cons_zero, List.getD_cons_succ, Fc.holds, cellsAt, true_implies, and_true] at he
      try (obtain ⟨⟨g, hg, hcs⟩, he⟩ := he; simp only [hg])
      try (obtain ⟨g, hg, hcs⟩ := he; simp only [hg])
      try simp only [he]
      go_wp2_with (go_at_call 52; refine (rnames2_c _).mono ?_; rintro e w5 ⟨rfl, rfl⟩)
      first
        | exact ⟨rfl, Below.refl _ _⟩
        | exact rfl
        | exact ⟨⟨_, rfl, HNM.out _, trivial⟩, bal (Below.refl _ _) _⟩
        | exact ⟨⟨_, rfl, hcs, trivial⟩, Below.refl _ _⟩
  · intro vs w3 hb' hall
    simp only [factSteps, List.getD_cons_zero, List.getD_cons_succ, Fc.holds, cellsAt, and_true] at hall
    obtain ⟨⟨g0, a0, -⟩, a1, a2, ⟨g3, a3, -⟩, a4, a5⟩ := hall
    have e0 := (hb'.cell (p := ⟨W.heap.size, 0, none⟩) z1).trans c0
    have e1 := (hb'.cell (p := ⟨W.heap.size, 1, none⟩) z1).trans c1
    have e2 := (hb'.cell (p := ⟨W.heap.size, 2, none⟩) z1).trans c2
    have e3 := (hb'.cell (p := ⟨W.heap.size, 3, none⟩) z1).trans c3
    have e4 := (hb'.cell (p := ⟨W.heap.size, 4, none⟩) z1).trans c4
    have e5 := (hb'.cell (p := ⟨W.heap.size, 5, none⟩) z1).trans c5
    have HB3 := Lib.hid (bthen HB1.out hb')
    simp only [putAll, Act.put, List.setIfInBounds_toArray, List.set_cons_zero, List.set_cons_succ, a0, a1, a2, a3, a4, a5]
    clear c0 c1 c2 c3 c4 c5 a0 a1 a2 a3 a4 a5 hb' HNM z1
    go_wp2_with (first | (go_at_call 53; with_reducible refine Calls.mono (HSG.out _) ?_; rintro e w' ⟨rfl, ⟨na, rfl⟩⟩) | (go_at_call 18; with_reducible refine Calls.mono (GS.out _) ?_; rintro e w' ⟨rfl, ⟨nb', rfl⟩⟩) | (go_at_call 54; with_reducible refine Calls.mono (HF.out _) ?_; rintro e w' ⟨rfl, rfl⟩))
    refine wp_region_below (by kernel_rfl) (by kernel_rfl) ?_
    intro S _ F hF hS
    have d1 := fcell hF (b := W.heap.size) (o := 1) (v := .int .i64 rd) (by simpa [go_sem] using e1)
    have d2 := fcell hF (b := W.heap.size) (o := 2) (v := .int .i64 rs1) (by simpa [go_sem] using e2)
    have d3 := fcell hF (b := W.heap.size) (o := 3) (v := .int .i64 rs2) (by simpa [go_sem] using e3)
    have d4 := fcell hF (b := W.heap.size) (o := 4) (v := .int .u32 imm) (by simpa [go_sem] using e4)
    have d5 := fcell hF (b := W.heap.size) (o := 5) (v := .int .i64 csr) (by simpa [go_sem] using e5)
    have QQ := fun {f : FuncId} {args : Array Value} {s : S} {v : Value} (h : Calls Tryd.prog f args (F s) fun e w' => e = .returned v ∧ Drawn0 (F s) w') => h.mono fun _ _ h => (⟨h.1, hS _ _ h.2.below⟩ : _ ∧ ∃ s', _ = F s')
    repeat (go_big_quiet_step (first | (go_at_call 20; exact QQ (Grd.out _)) | (go_at_call 18; exact QQ (GU.out _))))
    refine wpQuiet_nil ?_
    intro w5 hw5
    obtain ⟨s5, rfl⟩ := hw5
    have HB5 := hF s5
    clear d1 d2 d3 d4 d5 hF hS QQ
    generalize F s5 = w5 at *
    go_wp2
    go_ret2
    exact ⟨rfl, by repeat (first | (with_reducible exact HB3.out) | (with_reducible refine bdn ?_ _) | (with_reducible refine bal ?_ _) | (with_reducible refine bthen ?_ HB5))⟩
set_option maxHeartbeats 8000000 in
set_option maxRecDepth 100000 in
theorem rtext_f2 (k : Nat) (hk : k < 58) (rd rs1 rs2 imm csr : Int) (n : ByteArray) (hnm : nameAt k = n) (hn : n.size ≤ 100) (h0 : ¬ (k : Int) = 0) (hrd : I64 rd) (hrs1 : I64 rs1) (hrs2 : I64 rs2) (hcsr : I64 csr) (hi : 0 ≤ imm ∧ imm ≤ 4294967295) (W : World)
    (HR : Hid (∀ v, Calls Tryd.prog 51 #[.agg #[.int .i64 (k : Int), .int .i64 rd, .int .i64 rs1, .int .i64 rs2, .int .u32 imm, .int .i64 csr]] v fun e w' => e = .returned (.bool true) ∧ Below v.heap.size v w'))
    (HF : Hid (∀ v, Calls Tryd.prog 54 #[.int .i64 (k : Int)] v fun e w' => e = .returned (.int .i64 2) ∧ v = w')) :
    Calls Tryd.prog 23 #[.agg #[.int .i64 (k : Int), .int .i64 rd, .int .i64 rs1, .int .i64 rs2, .int .u32 imm, .int .i64 csr]] W fun e w' => e = .returned (.tuple #[.string ((((n ++ (⟨#[32]⟩ : ByteArray)) ++ (regS rd)) ++ (⟨#[44, 32]⟩ : ByteArray)) ++ (numS (wrap32 imm))), .bool true]) ∧ Below W.heap.size W w' := by
  have k0 := nb h0
  clear h0
  have HNM := Lib.hid (fun v => nm_cell k hk v 9)
  rw [hnm] at HNM
  have HSG := Lib.hid (fun v => rsigned_c imm hi v)
  have GS := Lib.hid (fun v => rnumber_c (wrap32 imm) (w32_i64 imm hi) v)
  have zS := numS_size _ (w32_i64 imm hi)
  have Grd := Lib.hid (fun v => rregister_c rd hrd v)
  have zrd := regS_size rd hrd
  generalize numS (wrap32 imm) = sx at *
  generalize wrap32 imm = sg at *
  generalize regS rd = sd at *
  have t0 : n.size + 1 ≤ 9223372036854775807 := by omega
  have u0 : n.size + 1 ≤ 9223372036854775807 := by
    exact t0
  have t1 : n.size + 1 + sd.size ≤ 9223372036854775807 := by omega
  have u1 : (n ++ (⟨#[32]⟩ : ByteArray)).size + sd.size ≤ 9223372036854775807 := by
    simp only [ByteArray.size_append]
    exact t1
  have t2 : n.size + 1 + sd.size + 2 ≤ 9223372036854775807 := by omega
  have u2 : ((n ++ (⟨#[32]⟩ : ByteArray)) ++ sd).size + 2 ≤ 9223372036854775807 := by
    simp only [ByteArray.size_append]
    exact t2
  have t3 : n.size + 1 + sd.size + 2 + sx.size ≤ 9223372036854775807 := by omega
  have u3 : (((n ++ (⟨#[32]⟩ : ByteArray)) ++ sd) ++ (⟨#[44, 32]⟩ : ByteArray)).size + sx.size ≤ 9223372036854775807 := by
    simp only [ByteArray.size_append]
    exact t3
  clear hnm hn zS hrd hrs1 hrs2 hcsr hi zrd
  have i1 : (0 : Int) ≤ (k : Int) := by omega
  have i2 : (k : Int) < 58 := by omega
  have hbw := bal (Below.refl W.heap.size W) (.cells #[.int .i64 (k : Int), .int .i64 rd, .int .i64 rs1, .int .i64 rs2, .int .u32 imm, .int .i64 csr] 53)
  have HBW := Lib.hid hbw
  clear hbw
  go_enter Tryd.func23, Tryd.ntmps23
  go_wp2_with fail
  refine (HR.out _).mono ?_
  rintro e w1 ⟨rfl, hb1⟩
  have hc := (bcf hb1).1
  have HB1 := Lib.hid (bthen HBW.out hb1)
  have z1 : W.heap.size < w1.heap.size := by have := hb1.size; simp at this; omega
  have c0 := (hc W.heap.size 0 (by simp)).trans (show _ = some (.int .i64 (k : Int)) by simp [go_sem])
  have c1 := (hc W.heap.size 1 (by simp)).trans (show _ = some (.int .i64 rd) by simp [go_sem])
  have c2 := (hc W.heap.size 2 (by simp)).trans (show _ = some (.int .i64 rs1) by simp [go_sem])
  have c3 := (hc W.heap.size 3 (by simp)).trans (show _ = some (.int .i64 rs2) by simp [go_sem])
  have c4 := (hc W.heap.size 4 (by simp)).trans (show _ = some (.int .u32 imm) by simp [go_sem])
  have c5 := (hc W.heap.size 5 (by simp)).trans (show _ = some (.int .i64 csr) by simp [go_sem])
  clear hb1 hc
  go_wp2
  refine wp_region_fc (by kernel_rfl) (by kernel_rfl) [.mem (fun g => .slice (some ⟨g, 0, none⟩) 58 58) [(k, .string n)], .is (.pointer (some ⟨W.heap.size, 0, none⟩)), .is (.int .i64 (k : Int)), .mem (fun g => .pointer (some ⟨g, k, none⟩)) [(k, .string n)], .is (.string n), .is (.string n)] ?_ ?_
  · intro vs w' hb'
    have q0 := (hb'.cell (p := ⟨W.heap.size, 0, none⟩) z1).trans c0
    clear c0 c1 c2 c3 c4 c5
    simp only [factSteps, putAll, Act.put, List.setIfInBounds_toArray, List.set_cons_zero, List.set_cons_succ]
    refine ⟨?_, ?_, ?_, ?_, ?_, ?_, trivial⟩
    all_goals
      intro he
      simp only [factEdges, Region.binds, List.getD_cons_zero, List.getD_cons_succ, Fc.holds, cellsAt, true_implies, and_true] at he
      try (obtain ⟨⟨g, hg, hcs⟩, he⟩ := he; simp only [hg])
      try (obtain ⟨g, hg, hcs⟩ := he; simp only [hg])
      try simp only [he]
      go_wp2_with (go_at_call 52; refine (rnames2_c _).mono ?_; rintro e w5 ⟨rfl, rfl⟩)
      first
        | exact ⟨rfl, Below.refl _ _⟩
        | exact rfl
        | exact ⟨⟨_, rfl, HNM.out _, trivial⟩, bal (Below.refl _ _) _⟩
        | exact ⟨⟨_, rfl, hcs, trivial⟩, Below.refl _ _⟩
  · intro vs w3 hb' hall
    simp only [factSteps, List.getD_cons_zero, List.getD_cons_succ, Fc.holds, cellsAt, and_true] at hall
    obtain ⟨⟨g0, a0, -⟩, a1, a2, ⟨g3, a3, -⟩, a4, a5⟩ := hall
    have e0 := (hb'.cell (p := ⟨W.heap.size, 0, none⟩) z1).trans c0
    have e1 := (hb'.cell (p := ⟨W.heap.size, 1, none⟩) z1).trans c1
    have e2 := (hb'.cell (p := ⟨W.heap.size, 2, none⟩) z1).trans c2
    have e3 := (hb'.cell (p := ⟨W.heap.size, 3, none⟩) z1).trans c3
    have e4 := (hb'.cell (p := ⟨W.heap.size, 4, none⟩) z1).trans c4
    have e5 := (hb'.cell (p := ⟨W.heap.size, 5, none⟩) z1).trans c5
    have HB3 := Lib.hid (bthen HB1.out hb')
    simp only [putAll, Act.put, List.setIfInBounds_toArray, List.set_cons_zero, List.set_cons_succ, a0, a1, a2, a3, a4, a5]
    clear c0 c1 c2 c3 c4 c5 a0 a1 a2 a3 a4 a5 hb' HNM z1
    go_wp2_with (first | (go_at_call 53; with_reducible refine Calls.mono (HSG.out _) ?_; rintro e w' ⟨rfl, ⟨na, rfl⟩⟩) | (go_at_call 18; with_reducible refine Calls.mono (GS.out _) ?_; rintro e w' ⟨rfl, ⟨nb', rfl⟩⟩) | (go_at_call 54; with_reducible refine Calls.mono (HF.out _) ?_; rintro e w' ⟨rfl, rfl⟩) | (go_at_call 20; with_reducible refine Calls.mono (Grd.out _) ?_; rintro e w' ⟨rfl, ⟨nc, rfl⟩⟩))
    go_ret2
    exact ⟨rfl, by repeat (first | (with_reducible exact HB3.out) | (with_reducible refine bdn ?_ _) | (with_reducible refine bal ?_ _))⟩
set_option maxHeartbeats 8000000 in
set_option maxRecDepth 100000 in
theorem rtext_f3a (k : Nat) (hk : k < 58) (rd rs1 rs2 imm csr : Int) (n : ByteArray) (hnm : nameAt k = n) (hn : n.size ≤ 100) (h0 : ¬ (k : Int) = 0) (h4 : (k : Int) ≤ 15) (hrd : I64 rd) (hrs1 : I64 rs1) (hrs2 : I64 rs2) (hcsr : I64 csr) (hi : 0 ≤ imm ∧ imm ≤ 4294967295) (W : World)
    (HR : Hid (∀ v, Calls Tryd.prog 51 #[.agg #[.int .i64 (k : Int), .int .i64 rd, .int .i64 rs1, .int .i64 rs2, .int .u32 imm, .int .i64 csr]] v fun e w' => e = .returned (.bool true) ∧ Below v.heap.size v w'))
    (HF : Hid (∀ v, Calls Tryd.prog 54 #[.int .i64 (k : Int)] v fun e w' => e = .returned (.int .i64 3) ∧ v = w')) :
    Calls Tryd.prog 23 #[.agg #[.int .i64 (k : Int), .int .i64 rd, .int .i64 rs1, .int .i64 rs2, .int .u32 imm, .int .i64 csr]] W fun e w' => e = .returned (.tuple #[.string (((((((n ++ (⟨#[32]⟩ : ByteArray)) ++ (regS rd)) ++ (⟨#[44, 32]⟩ : ByteArray)) ++ (numS (wrap32 imm))) ++ (⟨#[40]⟩ : ByteArray)) ++ (regS rs1)) ++ (⟨#[41]⟩ : ByteArray)), .bool true]) ∧ Below W.heap.size W w' := by
  have k0 := nb h0
  clear h0
  have HNM := Lib.hid (fun v => nm_cell k hk v 9)
  rw [hnm] at HNM
  have HSG := Lib.hid (fun v => rsigned_c imm hi v)
  have GS := Lib.hid (fun v => rnumber_c (wrap32 imm) (w32_i64 imm hi) v)
  have zS := numS_size _ (w32_i64 imm hi)
  have Grd := Lib.hid (fun v => rregister_c rd hrd v)
  have zrd := regS_size rd hrd
  have Grs1 := Lib.hid (fun v => rregister_c rs1 hrs1 v)
  have zrs1 := regS_size rs1 hrs1
  generalize numS (wrap32 imm) = sx at *
  generalize wrap32 imm = sg at *
  generalize regS rd = sd at *
  generalize regS rs1 = s1 at *
  have t0 : n.size + 1 ≤ 9223372036854775807 := by omega
  have u0 : n.size + 1 ≤ 9223372036854775807 := by
    exact t0
  have t1 : n.size + 1 + sd.size ≤ 9223372036854775807 := by omega
  have u1 : (n ++ (⟨#[32]⟩ : ByteArray)).size + sd.size ≤ 9223372036854775807 := by
    simp only [ByteArray.size_append]
    exact t1
  have t2 : n.size + 1 + sd.size + 2 ≤ 9223372036854775807 := by omega
  have u2 : ((n ++ (⟨#[32]⟩ : ByteArray)) ++ sd).size + 2 ≤ 9223372036854775807 := by
    simp only [ByteArray.size_append]
    exact t2
  have t3 : n.size + 1 + sd.size + 2 + sx.size ≤ 9223372036854775807 := by omega
  have u3 : (((n ++ (⟨#[32]⟩ : ByteArray)) ++ sd) ++ (⟨#[44, 32]⟩ : ByteArray)).size + sx.size ≤ 9223372036854775807 := by
    simp only [ByteArray.size_append]
    exact t3
  have t4 : n.size + 1 + sd.size + 2 + sx.size + 1 ≤ 9223372036854775807 := by omega
  have u4 : ((((n ++ (⟨#[32]⟩ : ByteArray)) ++ sd) ++ (⟨#[44, 32]⟩ : ByteArray)) ++ sx).size + 1 ≤ 9223372036854775807 := by
    simp only [ByteArray.size_append]
    exact t4
  have t5 : n.size + 1 + sd.size + 2 + sx.size + 1 + s1.size ≤ 9223372036854775807 := by omega
  have u5 : (((((n ++ (⟨#[32]⟩ : ByteArray)) ++ sd) ++ (⟨#[44, 32]⟩ : ByteArray)) ++ sx) ++ (⟨#[40]⟩ : ByteArray)).size + s1.size ≤ 9223372036854775807 := by
    simp only [ByteArray.size_append]
    exact t5
  have t6 : n.size + 1 + sd.size + 2 + sx.size + 1 + s1.size + 1 ≤ 9223372036854775807 := by omega
  have u6 : ((((((n ++ (⟨#[32]⟩ : ByteArray)) ++ sd) ++ (⟨#[44, 32]⟩ : ByteArray)) ++ sx) ++ (⟨#[40]⟩ : ByteArray)) ++ s1).size + 1 ≤ 9223372036854775807 := by
    simp only [ByteArray.size_append]
    exact t6
  clear hnm hn zS hrd hrs1 hrs2 hcsr hi zrd zrs1
  have i1 : (0 : Int) ≤ (k : Int) := by omega
  have i2 : (k : Int) < 58 := by omega
  have hbw := bal (Below.refl W.heap.size W) (.cells #[.int .i64 (k : Int), .int .i64 rd, .int .i64 rs1, .int .i64 rs2, .int .u32 imm, .int .i64 csr] 53)
  have HBW := Lib.hid hbw
  clear hbw
  go_enter Tryd.func23, Tryd.ntmps23
  go_wp2_with fail
  refine (HR.out _).mono ?_
  rintro e w1 ⟨rfl, hb1⟩
  have hc := (bcf hb1).1
  have HB1 := Lib.hid (bthen HBW.out hb1)
  have z1 : W.heap.size < w1.heap.size := by have := hb1.size; simp at this; omega
  have c0 := (hc W.heap.size 0 (by simp)).trans (show _ = some (.int .i64 (k : Int)) by simp [go_sem])
  have c1 := (hc W.heap.size 1 (by simp)).trans (show _ = some (.int .i64 rd) by simp [go_sem])
  have c2 := (hc W.heap.size 2 (by simp)).trans (show _ = some (.int .i64 rs1) by simp [go_sem])
  have c3 := (hc W.heap.size 3 (by simp)).trans (show _ = some (.int .i64 rs2) by simp [go_sem])
  have c4 := (hc W.heap.size 4 (by simp)).trans (show _ = some (.int .u32 imm) by simp [go_sem])
  have c5 := (hc W.heap.size 5 (by simp)).trans (show _ = some (.int .i64 csr) by simp [go_sem])
  clear hb1 hc
  go_wp2
  refine wp_region_fc (by kernel_rfl) (by kernel_rfl) [.mem (fun g => .slice (some ⟨g, 0, none⟩) 58 58) [(k, .string n)], .is (.pointer (some ⟨W.heap.size, 0, none⟩)), .is (.int .i64 (k : Int)), .mem (fun g => .pointer (some ⟨g, k, none⟩)) [(k, .string n)], .is (.string n), .is (.string n)] ?_ ?_
  · intro vs w' hb'
    have q0 := (hb'.cell (p := ⟨W.heap.size, 0, none⟩) z1).trans c0
    clear c0 c1 c2 c3 c4 c5
    simp only [factSteps, putAll, Act.put, List.setIfInBounds_toArray, List.set_cons_zero, List.set_cons_succ]
    refine ⟨?_, ?_, ?_, ?_, ?_, ?_, trivial⟩
    all_goals
      intro he
      simp only [factEdges, Region.binds, List.getD_cons_zero, List.getD_cons_succ, Fc.holds, cellsAt, true_implies, and_true] at he
      try (obtain ⟨⟨g, hg, hcs⟩, he⟩ := he; simp only [hg])
      try (obtain ⟨g, hg, hcs⟩ := he; simp only [hg])
      try simp only [he]
      go_wp2_with (go_at_call 52; refine (rnames2_c _).mono ?_; rintro e w5 ⟨rfl, rfl⟩)
      first
        | exact ⟨rfl, Below.refl _ _⟩
        | exact rfl
        | exact ⟨⟨_, rfl, HNM.out _, trivial⟩, bal (Below.refl _ _) _⟩
        | exact ⟨⟨_, rfl, hcs, trivial⟩, Below.refl _ _⟩
  · intro vs w3 hb' hall
    simp only [factSteps, List.getD_cons_zero, List.getD_cons_succ, Fc.holds, cellsAt, and_true] at hall
    obtain ⟨⟨g0, a0, -⟩, a1, a2, ⟨g3, a3, -⟩, a4, a5⟩ := hall
    have e0 := (hb'.cell (p := ⟨W.heap.size, 0, none⟩) z1).trans c0
    have e1 := (hb'.cell (p := ⟨W.heap.size, 1, none⟩) z1).trans c1
    have e2 := (hb'.cell (p := ⟨W.heap.size, 2, none⟩) z1).trans c2
    have e3 := (hb'.cell (p := ⟨W.heap.size, 3, none⟩) z1).trans c3
    have e4 := (hb'.cell (p := ⟨W.heap.size, 4, none⟩) z1).trans c4
    have e5 := (hb'.cell (p := ⟨W.heap.size, 5, none⟩) z1).trans c5
    have HB3 := Lib.hid (bthen HB1.out hb')
    simp only [putAll, Act.put, List.setIfInBounds_toArray, List.set_cons_zero, List.set_cons_succ, a0, a1, a2, a3, a4, a5]
    clear c0 c1 c2 c3 c4 c5 a0 a1 a2 a3 a4 a5 hb' HNM z1
    go_wp2_with (first | (go_at_call 53; with_reducible refine Calls.mono (HSG.out _) ?_; rintro e w' ⟨rfl, ⟨na, rfl⟩⟩) | (go_at_call 18; with_reducible refine Calls.mono (GS.out _) ?_; rintro e w' ⟨rfl, ⟨nb', rfl⟩⟩) | (go_at_call 54; with_reducible refine Calls.mono (HF.out _) ?_; rintro e w' ⟨rfl, rfl⟩))
    refine wp_region_below (by kernel_rfl) (by kernel_rfl) ?_
    intro S _ F hF hS
    have d1 := fcell hF (b := W.heap.size) (o := 1) (v := .int .i64 rd) (by simpa [go_sem] using e1)
    have d2 := fcell hF (b := W.heap.size) (o := 2) (v := .int .i64 rs1) (by simpa [go_sem] using e2)
    have d3 := fcell hF (b := W.heap.size) (o := 3) (v := .int .i64 rs2) (by simpa [go_sem] using e3)
    have d4 := fcell hF (b := W.heap.size) (o := 4) (v := .int .u32 imm) (by simpa [go_sem] using e4)
    have d5 := fcell hF (b := W.heap.size) (o := 5) (v := .int .i64 csr) (by simpa [go_sem] using e5)
    have QQ := fun {f : FuncId} {args : Array Value} {s : S} {v : Value} (h : Calls Tryd.prog f args (F s) fun e w' => e = .returned v ∧ Drawn0 (F s) w') => h.mono fun _ _ h => (⟨h.1, hS _ _ h.2.below⟩ : _ ∧ ∃ s', _ = F s')
    repeat (go_big_quiet_step (first | (go_at_call 20; exact QQ (Grd.out _)) | (go_at_call 20; exact QQ (Grs1.out _))))
    refine wpQuiet_nil ?_
    intro w5 hw5
    obtain ⟨s5, rfl⟩ := hw5
    have HB5 := hF s5
    clear d1 d2 d3 d4 d5 hF hS QQ
    generalize F s5 = w5 at *
    go_wp2
    go_ret2
    exact ⟨rfl, by repeat (first | (with_reducible exact HB3.out) | (with_reducible refine bdn ?_ _) | (with_reducible refine bal ?_ _) | (with_reducible refine bthen ?_ HB5))⟩
set_option maxHeartbeats 8000000 in
set_option maxRecDepth 100000 in
theorem rtext_f3b (k : Nat) (hk : k < 58) (rd rs1 rs2 imm csr : Int) (n : ByteArray) (hnm : nameAt k = n) (hn : n.size ≤ 100) (h0 : ¬ (k : Int) = 0) (h4 : ¬ (k : Int) ≤ 15) (hrd : I64 rd) (hrs1 : I64 rs1) (hrs2 : I64 rs2) (hcsr : I64 csr) (hi : 0 ≤ imm ∧ imm ≤ 4294967295) (W : World)
    (HR : Hid (∀ v, Calls Tryd.prog 51 #[.agg #[.int .i64 (k : Int), .int .i64 rd, .int .i64 rs1, .int .i64 rs2, .int .u32 imm, .int .i64 csr]] v fun e w' => e = .returned (.bool true) ∧ Below v.heap.size v w'))
    (HF : Hid (∀ v, Calls Tryd.prog 54 #[.int .i64 (k : Int)] v fun e w' => e = .returned (.int .i64 3) ∧ v = w')) :
    Calls Tryd.prog 23 #[.agg #[.int .i64 (k : Int), .int .i64 rd, .int .i64 rs1, .int .i64 rs2, .int .u32 imm, .int .i64 csr]] W fun e w' => e = .returned (.tuple #[.string ((((((n ++ (⟨#[32]⟩ : ByteArray)) ++ (regS rd)) ++ (⟨#[44, 32]⟩ : ByteArray)) ++ (regS rs1)) ++ (⟨#[44, 32]⟩ : ByteArray)) ++ (numS (wrap32 imm))), .bool true]) ∧ Below W.heap.size W w' := by
  have k0 := nb h0
  clear h0
  have HNM := Lib.hid (fun v => nm_cell k hk v 9)
  rw [hnm] at HNM
  have HSG := Lib.hid (fun v => rsigned_c imm hi v)
  have GS := Lib.hid (fun v => rnumber_c (wrap32 imm) (w32_i64 imm hi) v)
  have zS := numS_size _ (w32_i64 imm hi)
  have Grd := Lib.hid (fun v => rregister_c rd hrd v)
  have zrd := regS_size rd hrd
  have Grs1 := Lib.hid (fun v => rregister_c rs1 hrs1 v)
  have zrs1 := regS_size rs1 hrs1
  generalize numS (wrap32 imm) = sx at *
  generalize wrap32 imm = sg at *
  generalize regS rd = sd at *
  generalize regS rs1 = s1 at *
  have t0 : n.size + 1 ≤ 9223372036854775807 := by omega
  have u0 : n.size + 1 ≤ 9223372036854775807 := by
    exact t0
  have t1 : n.size + 1 + sd.size ≤ 9223372036854775807 := by omega
  have u1 : (n ++ (⟨#[32]⟩ : ByteArray)).size + sd.size ≤ 9223372036854775807 := by
    simp only [ByteArray.size_append]
    exact t1
  have t2 : n.size + 1 + sd.size + 2 ≤ 9223372036854775807 := by omega
  have u2 : ((n ++ (⟨#[32]⟩ : ByteArray)) ++ sd).size + 2 ≤ 9223372036854775807 := by
    simp only [ByteArray.size_append]
    exact t2
  have t3 : n.size + 1 + sd.size + 2 + s1.size ≤ 9223372036854775807 := by omega
  have u3 : (((n ++ (⟨#[32]⟩ : ByteArray)) ++ sd) ++ (⟨#[44, 32]⟩ : ByteArray)).size + s1.size ≤ 9223372036854775807 := by
    simp only [ByteArray.size_append]
    exact t3
  have t4 : n.size + 1 + sd.size + 2 + s1.size + 2 ≤ 9223372036854775807 := by omega
  have u4 : ((((n ++ (⟨#[32]⟩ : ByteArray)) ++ sd) ++ (⟨#[44, 32]⟩ : ByteArray)) ++ s1).size + 2 ≤ 9223372036854775807 := by
    simp only [ByteArray.size_append]
    exact t4
  have t5 : n.size + 1 + sd.size + 2 + s1.size + 2 + sx.size ≤ 9223372036854775807 := by omega
  have u5 : (((((n ++ (⟨#[32]⟩ : ByteArray)) ++ sd) ++ (⟨#[44, 32]⟩ : ByteArray)) ++ s1) ++ (⟨#[44, 32]⟩ : ByteArray)).size + sx.size ≤ 9223372036854775807 := by
    simp only [ByteArray.size_append]
    exact t5
  clear hnm hn zS hrd hrs1 hrs2 hcsr hi zrd zrs1
  have i1 : (0 : Int) ≤ (k : Int) := by omega
  have i2 : (k : Int) < 58 := by omega
  have hbw := bal (Below.refl W.heap.size W) (.cells #[.int .i64 (k : Int), .int .i64 rd, .int .i64 rs1, .int .i64 rs2, .int .u32 imm, .int .i64 csr] 53)
  have HBW := Lib.hid hbw
  clear hbw
  go_enter Tryd.func23, Tryd.ntmps23
  go_wp2_with fail
  refine (HR.out _).mono ?_
  rintro e w1 ⟨rfl, hb1⟩
  have hc := (bcf hb1).1
  have HB1 := Lib.hid (bthen HBW.out hb1)
  have z1 : W.heap.size < w1.heap.size := by have := hb1.size; simp at this; omega
  have c0 := (hc W.heap.size 0 (by simp)).trans (show _ = some (.int .i64 (k : Int)) by simp [go_sem])
  have c1 := (hc W.heap.size 1 (by simp)).trans (show _ = some (.int .i64 rd) by simp [go_sem])
  have c2 := (hc W.heap.size 2 (by simp)).trans (show _ = some (.int .i64 rs1) by simp [go_sem])
  have c3 := (hc W.heap.size 3 (by simp)).trans (show _ = some (.int .i64 rs2) by simp [go_sem])
  have c4 := (hc W.heap.size 4 (by simp)).trans (show _ = some (.int .u32 imm) by simp [go_sem])
  have c5 := (hc W.heap.size 5 (by simp)).trans (show _ = some (.int .i64 csr) by simp [go_sem])
  clear hb1 hc
  go_wp2
  refine wp_region_fc (by kernel_rfl) (by kernel_rfl) [.mem (fun g => .slice (some ⟨g, 0, none⟩) 58 58) [(k, .string n)], .is (.pointer (some ⟨W.heap.size, 0, none⟩)), .is (.int .i64 (k : Int)), .mem (fun g => .pointer (some ⟨g, k, none⟩)) [(k, .string n)], .is (.string n), .is (.string n)] ?_ ?_
  · intro vs w' hb'
    have q0 := (hb'.cell (p := ⟨W.heap.size, 0, none⟩) z1).trans c0
    clear c0 c1 c2 c3 c4 c5
    simp only [factSteps, putAll, Act.put, List.setIfInBounds_toArray, List.set_cons_zero, List.set_cons_succ]
    refine ⟨?_, ?_, ?_, ?_, ?_, ?_, trivial⟩
    all_goals
      intro he
      simp only [factEdges, Region.binds, List.getD_cons_zero, List.getD_cons_succ, Fc.holds, cellsAt, true_implies, and_true] at he
      try (obtain ⟨⟨g, hg, hcs⟩, he⟩ := he; simp only [hg])
      try (obtain ⟨g, hg, hcs⟩ := he; simp only [hg])
      try simp only [he]
      go_wp2_with (go_at_call 52; refine (rnames2_c _).mono ?_; rintro e w5 ⟨rfl, rfl⟩)
      first
        | exact ⟨rfl, Below.refl _ _⟩
        | exact rfl
        | exact ⟨⟨_, rfl, HNM.out _, trivial⟩, bal (Below.refl _ _) _⟩
        | exact ⟨⟨_, rfl, hcs, trivial⟩, Below.refl _ _⟩
  · intro vs w3 hb' hall
    simp only [factSteps, List.getD_cons_zero, List.getD_cons_succ, Fc.holds, cellsAt, and_true] at hall
    obtain ⟨⟨g0, a0, -⟩, a1, a2, ⟨g3, a3, -⟩, a4, a5⟩ := hall
    have e0 := (hb'.cell (p := ⟨W.heap.size, 0, none⟩) z1).trans c0
    have e1 := (hb'.cell (p := ⟨W.heap.size, 1, none⟩) z1).trans c1
    have e2 := (hb'.cell (p := ⟨W.heap.size, 2, none⟩) z1).trans c2
    have e3 := (hb'.cell (p := ⟨W.heap.size, 3, none⟩) z1).trans c3
    have e4 := (hb'.cell (p := ⟨W.heap.size, 4, none⟩) z1).trans c4
    have e5 := (hb'.cell (p := ⟨W.heap.size, 5, none⟩) z1).trans c5
    have HB3 := Lib.hid (bthen HB1.out hb')
    simp only [putAll, Act.put, List.setIfInBounds_toArray, List.set_cons_zero, List.set_cons_succ, a0, a1, a2, a3, a4, a5]
    clear c0 c1 c2 c3 c4 c5 a0 a1 a2 a3 a4 a5 hb' HNM z1
    go_wp2_with (first | (go_at_call 53; with_reducible refine Calls.mono (HSG.out _) ?_; rintro e w' ⟨rfl, ⟨na, rfl⟩⟩) | (go_at_call 18; with_reducible refine Calls.mono (GS.out _) ?_; rintro e w' ⟨rfl, ⟨nb', rfl⟩⟩) | (go_at_call 54; with_reducible refine Calls.mono (HF.out _) ?_; rintro e w' ⟨rfl, rfl⟩))
    refine wp_region_below (by kernel_rfl) (by kernel_rfl) ?_
    intro S _ F hF hS
    have d1 := fcell hF (b := W.heap.size) (o := 1) (v := .int .i64 rd) (by simpa [go_sem] using e1)
    have d2 := fcell hF (b := W.heap.size) (o := 2) (v := .int .i64 rs1) (by simpa [go_sem] using e2)
    have d3 := fcell hF (b := W.heap.size) (o := 3) (v := .int .i64 rs2) (by simpa [go_sem] using e3)
    have d4 := fcell hF (b := W.heap.size) (o := 4) (v := .int .u32 imm) (by simpa [go_sem] using e4)
    have d5 := fcell hF (b := W.heap.size) (o := 5) (v := .int .i64 csr) (by simpa [go_sem] using e5)
    have QQ := fun {f : FuncId} {args : Array Value} {s : S} {v : Value} (h : Calls Tryd.prog f args (F s) fun e w' => e = .returned v ∧ Drawn0 (F s) w') => h.mono fun _ _ h => (⟨h.1, hS _ _ h.2.below⟩ : _ ∧ ∃ s', _ = F s')
    repeat (go_big_quiet_step (first | (go_at_call 20; exact QQ (Grd.out _)) | (go_at_call 20; exact QQ (Grs1.out _))))
    refine wpQuiet_nil ?_
    intro w5 hw5
    obtain ⟨s5, rfl⟩ := hw5
    have HB5 := hF s5
    clear d1 d2 d3 d4 d5 hF hS QQ
    generalize F s5 = w5 at *
    go_wp2
    go_ret2
    exact ⟨rfl, by repeat (first | (with_reducible exact HB3.out) | (with_reducible refine bdn ?_ _) | (with_reducible refine bal ?_ _) | (with_reducible refine bthen ?_ HB5))⟩
set_option maxHeartbeats 8000000 in
set_option maxRecDepth 100000 in
theorem rtext_f4 (k : Nat) (hk : k < 58) (rd rs1 rs2 imm csr : Int) (n : ByteArray) (hnm : nameAt k = n) (hn : n.size ≤ 100) (h0 : ¬ (k : Int) = 0) (hrd : I64 rd) (hrs1 : I64 rs1) (hrs2 : I64 rs2) (hcsr : I64 csr) (hi : 0 ≤ imm ∧ imm ≤ 4294967295) (W : World)
    (HR : Hid (∀ v, Calls Tryd.prog 51 #[.agg #[.int .i64 (k : Int), .int .i64 rd, .int .i64 rs1, .int .i64 rs2, .int .u32 imm, .int .i64 csr]] v fun e w' => e = .returned (.bool true) ∧ Below v.heap.size v w'))
    (HF : Hid (∀ v, Calls Tryd.prog 54 #[.int .i64 (k : Int)] v fun e w' => e = .returned (.int .i64 4) ∧ v = w')) :
    Calls Tryd.prog 23 #[.agg #[.int .i64 (k : Int), .int .i64 rd, .int .i64 rs1, .int .i64 rs2, .int .u32 imm, .int .i64 csr]] W fun e w' => e = .returned (.tuple #[.string ((((((n ++ (⟨#[32]⟩ : ByteArray)) ++ (regS rs1)) ++ (⟨#[44, 32]⟩ : ByteArray)) ++ (regS rs2)) ++ (⟨#[44, 32]⟩ : ByteArray)) ++ (numS (wrap32 imm))), .bool true]) ∧ Below W.heap.size W w' := by
  have k0 := nb h0
  clear h0
  have HNM := Lib.hid (fun v => nm_cell k hk v 9)
  rw [hnm] at HNM
  have HSG := Lib.hid (fun v => rsigned_c imm hi v)
  have GS := Lib.hid (fun v => rnumber_c (wrap32 imm) (w32_i64 imm hi) v)
  have zS := numS_size _ (w32_i64 imm hi)
  have Grs1 := Lib.hid (fun v => rregister_c rs1 hrs1 v)
  have zrs1 := regS_size rs1 hrs1
  have Grs2 := Lib.hid (fun v => rregister_c rs2 hrs2 v)
  have zrs2 := regS_size rs2 hrs2
  generalize numS (wrap32 imm) = sx at *
  generalize wrap32 imm = sg at *
  generalize regS rs1 = s1 at *
  generalize regS rs2 = s2 at *
  have t0 : n.size + 1 ≤ 9223372036854775807 := by omega
  have u0 : n.size + 1 ≤ 9223372036854775807 := by
    exact t0
  have t1 : n.size + 1 + s1.size ≤ 9223372036854775807 := by omega
  have u1 : (n ++ (⟨#[32]⟩ : ByteArray)).size + s1.size ≤ 9223372036854775807 := by
    simp only [ByteArray.size_append]
    exact t1
  have t2 : n.size + 1 + s1.size + 2 ≤ 9223372036854775807 := by omega
  have u2 : ((n ++ (⟨#[32]⟩ : ByteArray)) ++ s1).size + 2 ≤ 9223372036854775807 := by
    simp only [ByteArray.size_append]
    exact t2
  have t3 : n.size + 1 + s1.size + 2 + s2.size ≤ 9223372036854775807 := by omega
  have u3 : (((n ++ (⟨#[32]⟩ : ByteArray)) ++ s1) ++ (⟨#[44, 32]⟩ : ByteArray)).size + s2.size ≤ 9223372036854775807 := by
    simp only [ByteArray.size_append]
    exact t3
  have t4 : n.size + 1 + s1.size + 2 + s2.size + 2 ≤ 9223372036854775807 := by omega
  have u4 : ((((n ++ (⟨#[32]⟩ : ByteArray)) ++ s1) ++ (⟨#[44, 32]⟩ : ByteArray)) ++ s2).size + 2 ≤ 9223372036854775807 := by
    simp only [ByteArray.size_append]
    exact t4
  have t5 : n.size + 1 + s1.size + 2 + s2.size + 2 + sx.size ≤ 9223372036854775807 := by omega
  have u5 : (((((n ++ (⟨#[32]⟩ : ByteArray)) ++ s1) ++ (⟨#[44, 32]⟩ : ByteArray)) ++ s2) ++ (⟨#[44, 32]⟩ : ByteArray)).size + sx.size ≤ 9223372036854775807 := by
    simp only [ByteArray.size_append]
    exact t5
  clear hnm hn zS hrd hrs1 hrs2 hcsr hi zrs1 zrs2
  have i1 : (0 : Int) ≤ (k : Int) := by omega
  have i2 : (k : Int) < 58 := by omega
  have hbw := bal (Below.refl W.heap.size W) (.cells #[.int .i64 (k : Int), .int .i64 rd, .int .i64 rs1, .int .i64 rs2, .int .u32 imm, .int .i64 csr] 53)
  have HBW := Lib.hid hbw
  clear hbw
  go_enter Tryd.func23, Tryd.ntmps23
  go_wp2_with fail
  refine (HR.out _).mono ?_
  rintro e w1 ⟨rfl, hb1⟩
  have hc := (bcf hb1).1
  have HB1 := Lib.hid (bthen HBW.out hb1)
  have z1 : W.heap.size < w1.heap.size := by have := hb1.size; simp at this; omega
  have c0 := (hc W.heap.size 0 (by simp)).trans (show _ = some (.int .i64 (k : Int)) by simp [go_sem])
  have c1 := (hc W.heap.size 1 (by simp)).trans (show _ = some (.int .i64 rd) by simp [go_sem])
  have c2 := (hc W.heap.size 2 (by simp)).trans (show _ = some (.int .i64 rs1) by simp [go_sem])
  have c3 := (hc W.heap.size 3 (by simp)).trans (show _ = some (.int .i64 rs2) by simp [go_sem])
  have c4 := (hc W.heap.size 4 (by simp)).trans (show _ = some (.int .u32 imm) by simp [go_sem])
  have c5 := (hc W.heap.size 5 (by simp)).trans (show _ = some (.int .i64 csr) by simp [go_sem])
  clear hb1 hc
  go_wp2
  refine wp_region_fc (by kernel_rfl) (by kernel_rfl) [.mem (fun g => .slice (some ⟨g, 0, none⟩) 58 58) [(k, .string n)], .is (.pointer (some ⟨W.heap.size, 0, none⟩)), .is (.int .i64 (k : Int)), .mem (fun g => .pointer (some ⟨g, k, none⟩)) [(k, .string n)], .is (.string n), .is (.string n)] ?_ ?_
  · intro vs w' hb'
    have q0 := (hb'.cell (p := ⟨W.heap.size, 0, none⟩) z1).trans c0
    clear c0 c1 c2 c3 c4 c5
    simp only [factSteps, putAll, Act.put, List.setIfInBounds_toArray, List.set_cons_zero, List.set_cons_succ]
    refine ⟨?_, ?_, ?_, ?_, ?_, ?_, trivial⟩
    all_goals
      intro he
      simp only [factEdges, Region.binds, List.getD_cons_zero, List.getD_cons_succ, Fc.holds, cellsAt, true_implies, and_true] at he
      try (obtain ⟨⟨g, hg, hcs⟩, he⟩ := he; simp only [hg])
      try (obtain ⟨g, hg, hcs⟩ := he; simp only [hg])
      try simp only [he]
      go_wp2_with (go_at_call 52; refine (rnames2_c _).mono ?_; rintro e w5 ⟨rfl, rfl⟩)
      first
        | exact ⟨rfl, Below.refl _ _⟩
        | exact rfl
        | exact ⟨⟨_, rfl, HNM.out _, trivial⟩, bal (Below.refl _ _) _⟩
        | exact ⟨⟨_, rfl, hcs, trivial⟩, Below.refl _ _⟩
  · intro vs w3 hb' hall
    simp only [factSteps, List.getD_cons_zero, List.getD_cons_succ, Fc.holds, cellsAt, and_true] at hall
    obtain ⟨⟨g0, a0, -⟩, a1, a2, ⟨g3, a3, -⟩, a4, a5⟩ := hall
    have e0 := (hb'.cell (p := ⟨W.heap.size, 0, none⟩) z1).trans c0
    have e1 := (hb'.cell (p := ⟨W.heap.size, 1, none⟩) z1).trans c1
    have e2 := (hb'.cell (p := ⟨W.heap.size, 2, none⟩) z1).trans c2
    have e3 := (hb'.cell (p := ⟨W.heap.size, 3, none⟩) z1).trans c3
    have e4 := (hb'.cell (p := ⟨W.heap.size, 4, none⟩) z1).trans c4
    have e5 := (hb'.cell (p := ⟨W.heap.size, 5, none⟩) z1).trans c5
    have HB3 := Lib.hid (bthen HB1.out hb')
    simp only [putAll, Act.put, List.setIfInBounds_toArray, List.set_cons_zero, List.set_cons_succ, a0, a1, a2, a3, a4, a5]
    clear c0 c1 c2 c3 c4 c5 a0 a1 a2 a3 a4 a5 hb' HNM z1
    go_wp2_with (first | (go_at_call 53; with_reducible refine Calls.mono (HSG.out _) ?_; rintro e w' ⟨rfl, ⟨na, rfl⟩⟩) | (go_at_call 18; with_reducible refine Calls.mono (GS.out _) ?_; rintro e w' ⟨rfl, ⟨nb', rfl⟩⟩) | (go_at_call 54; with_reducible refine Calls.mono (HF.out _) ?_; rintro e w' ⟨rfl, rfl⟩))
    refine wp_region_below (by kernel_rfl) (by kernel_rfl) ?_
    intro S _ F hF hS
    have d1 := fcell hF (b := W.heap.size) (o := 1) (v := .int .i64 rd) (by simpa [go_sem] using e1)
    have d2 := fcell hF (b := W.heap.size) (o := 2) (v := .int .i64 rs1) (by simpa [go_sem] using e2)
    have d3 := fcell hF (b := W.heap.size) (o := 3) (v := .int .i64 rs2) (by simpa [go_sem] using e3)
    have d4 := fcell hF (b := W.heap.size) (o := 4) (v := .int .u32 imm) (by simpa [go_sem] using e4)
    have d5 := fcell hF (b := W.heap.size) (o := 5) (v := .int .i64 csr) (by simpa [go_sem] using e5)
    have QQ := fun {f : FuncId} {args : Array Value} {s : S} {v : Value} (h : Calls Tryd.prog f args (F s) fun e w' => e = .returned v ∧ Drawn0 (F s) w') => h.mono fun _ _ h => (⟨h.1, hS _ _ h.2.below⟩ : _ ∧ ∃ s', _ = F s')
    repeat (go_big_quiet_step (first | (go_at_call 20; exact QQ (Grs1.out _)) | (go_at_call 20; exact QQ (Grs2.out _))))
    refine wpQuiet_nil ?_
    intro w5 hw5
    obtain ⟨s5, rfl⟩ := hw5
    have HB5 := hF s5
    clear d1 d2 d3 d4 d5 hF hS QQ
    generalize F s5 = w5 at *
    go_wp2
    go_ret2
    exact ⟨rfl, by repeat (first | (with_reducible exact HB3.out) | (with_reducible refine bdn ?_ _) | (with_reducible refine bal ?_ _) | (with_reducible refine bthen ?_ HB5))⟩
end Go.Proofs.YtnooikjkjcflbadDoor
