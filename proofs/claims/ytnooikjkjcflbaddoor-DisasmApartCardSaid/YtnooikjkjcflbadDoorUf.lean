/- Contract of disasm.Text, form by form. Conditions: numbers are of their kinds; the instruction is right. -/
import Derived.Test.YtnooikjkjcflbadDoorUd
namespace Go.Proofs.YtnooikjkjcflbadDoor
open Go.RowKit Go.Proofs.YtnooikjkjcflbadDoorW.PrintWords Go.Proofs.YtnooikjkjcflbadDoorW.PrintLast Go.Proofs.YtnooikjkjcflbadDoorW.PrintMore Go.Proofs.YtnooikjkjcflbadDoor.PDisasmWords
set_option linter.unusedVariables false
set_option linter.unusedSimpArgs false

set_option maxHeartbeats 8000000 in
set_option maxRecDepth 100000 in
theorem dtext_f4 (op rd rs1 rs2 imm csr : Int) (n : ByteArray) (hn : n.size ≤ 100) (h0 : ¬ op = 0) (hrd : I64 rd) (hrs1 : I64 rs1) (hrs2 : I64 rs2) (hcsr : I64 csr) (hi : 0 ≤ imm ∧ imm ≤ 4294967295) (W : World)
    (HR : Hid (∀ v, Below W.heap.size W v → Calls Tryd.prog 44 #[.agg #[.int .i64 op, .int .i64 rd, .int .i64 rs1, .int .i64 rs2, .int .u32 imm, .int .i64 csr]] v fun e w' => e = .returned (.bool true) ∧ Below v.heap.size v w'))
    (HN : Hid (∀ v, Below W.heap.size W v → Calls Tryd.prog 45 #[.int .i64 op] v fun e w' => e = .returned (.tuple #[.string n, .int .i64 0]) ∧ v = w'))
    (HF : Hid (∀ v, Below W.heap.size W v → Calls Tryd.prog 46 #[.int .i64 op] v fun e w' => e = .returned (.tuple #[.int .i64 4, .int .i64 0]) ∧ v = w')) :
    Calls Tryd.prog 22 #[.agg #[.int .i64 op, .int .i64 rd, .int .i64 rs1, .int .i64 rs2, .int .u32 imm, .int .i64 csr]] W fun e w' => e = .returned (.tuple #[.string (with3 n (regS rs1) (regS rs2) (numS (wrap32 imm))), .int .i64 0]) ∧ Below W.heap.size W w' := by
  have k0 := nb h0
  clear h0
  have Grd := Lib.hid (fun v => register_c rd hrd v)
  have zsd := regS_size rd hrd
  have Grs1 := Lib.hid (fun v => register_c rs1 hrs1 v)
  have zs1 := regS_size rs1 hrs1
  have Grs2 := Lib.hid (fun v => register_c rs2 hrs2 v)
  have zs2 := regS_size rs2 hrs2
  have GX := Lib.hid (fun v => signed_c imm hi v)
  have zx := numS_size _ (w32_i64 imm hi)
  generalize numS (wrap32 imm) = sx at *
  generalize regS rd = sd at *
  generalize regS rs1 = s1 at *
  generalize regS rs2 = s2 at *
  have HW := Lib.hid (fun V => with3_c n s1 s2 sx hn (by omega) (by omega) (by omega) V)
  clear hn zsd zs1 zs2 hrd hrs1 hrs2 hcsr hi zx
  have hbw := bal (Below.refl W.heap.size W) (.cells #[.int .i64 op, .int .i64 rd, .int .i64 rs1, .int .i64 rs2, .int .u32 imm, .int .i64 csr] 53)
  have HBW := Lib.hid hbw
  clear hbw
  go_enter Tryd.func22, Tryd.ntmps22
  go_wp2_with fail
  refine (HR.out _ HBW.out).mono ?_
  rintro e w1 ⟨rfl, hb1⟩
  have hc := (bcf hb1).1
  have HB1 := Lib.hid (bthen HBW.out hb1)
  have z1 : W.heap.size < w1.heap.size := by have := hb1.size; simp at this; omega
  have c0 := (hc W.heap.size 0 (by simp)).trans (show _ = some (.int .i64 op) by simp [go_sem])
  have c1 := (hc W.heap.size 1 (by simp)).trans (show _ = some (.int .i64 rd) by simp [go_sem])
  have c2 := (hc W.heap.size 2 (by simp)).trans (show _ = some (.int .i64 rs1) by simp [go_sem])
  have c3 := (hc W.heap.size 3 (by simp)).trans (show _ = some (.int .i64 rs2) by simp [go_sem])
  have c4 := (hc W.heap.size 4 (by simp)).trans (show _ = some (.int .u32 imm) by simp [go_sem])
  have c5 := (hc W.heap.size 5 (by simp)).trans (show _ = some (.int .i64 csr) by simp [go_sem])
  clear hb1 hc
  go_wp2_with fail
  refine (HN.out _ HB1.out).mono ?_
  rintro e w' ⟨rfl, rfl⟩
  go_wp2_with fail
  refine (HF.out _ HB1.out).mono ?_
  rintro e w' ⟨rfl, rfl⟩
  go_wp2
  refine wp_region_below (by kernel_rfl) (by kernel_rfl) ?_
  intro S _ F hF hS
  have d0 := fcell hF c0
  have d1 := fcell hF c1
  have d2 := fcell hF c2
  have d3 := fcell hF c3
  have d4 := fcell hF c4
  have d5 := fcell hF c5
  repeat (go_big_quiet_step (first | (go_at_call 19; exact qbelow hS (Grd.out _)) | (go_at_call 19; exact qbelow hS (Grs1.out _)) | (go_at_call 19; exact qbelow hS (Grs2.out _))))
  refine wpQuiet_nil ?_
  intro w3 hw3
  obtain ⟨s3', rfl⟩ := hw3
  have HB3 := Lib.hid (bthen HB1.out (hF s3'))
  have e0 := d0 s3'
  have e1 := d1 s3'
  have e2 := d2 s3'
  have e3 := d3 s3'
  have e4 := d4 s3'
  have e5 := d5 s3'
  clear c0 c1 c2 c3 c4 c5 d0 d1 d2 d3 d4 d5 hF hS z1
  generalize F s3' = w3 at *
  go_wp2_with (first | (go_at_call 48; with_reducible refine Calls.mono (GX.out _) ?_; rintro e w4 ⟨rfl, hb4⟩) | (go_at_call 47; refine (HW.out _).mono ?_; rintro e w6 ⟨rfl, ⟨nd, rfl⟩⟩) | fail)
  go_ret2
  exact ⟨rfl, by repeat (first | (with_reducible exact HB3.out) | (with_reducible refine bdn ?_ _) | (with_reducible refine bal ?_ _) | (with_reducible refine bthen ?_ hb5) | (with_reducible refine bthen ?_ hb4))⟩
set_option maxHeartbeats 8000000 in
set_option maxRecDepth 100000 in
theorem dtext_f5 (op rd rs1 rs2 imm csr : Int) (n : ByteArray) (hn : n.size ≤ 100) (h0 : ¬ op = 0) (hrd : I64 rd) (hrs1 : I64 rs1) (hrs2 : I64 rs2) (hcsr : I64 csr) (hi : 0 ≤ imm ∧ imm ≤ 4294967295) (W : World)
    (HR : Hid (∀ v, Below W.heap.size W v → Calls Tryd.prog 44 #[.agg #[.int .i64 op, .int .i64 rd, .int .i64 rs1, .int .i64 rs2, .int .u32 imm, .int .i64 csr]] v fun e w' => e = .returned (.bool true) ∧ Below v.heap.size v w'))
    (HN : Hid (∀ v, Below W.heap.size W v → Calls Tryd.prog 45 #[.int .i64 op] v fun e w' => e = .returned (.tuple #[.string n, .int .i64 0]) ∧ v = w'))
    (HF : Hid (∀ v, Below W.heap.size W v → Calls Tryd.prog 46 #[.int .i64 op] v fun e w' => e = .returned (.tuple #[.int .i64 5, .int .i64 0]) ∧ v = w')) :
    Calls Tryd.prog 22 #[.agg #[.int .i64 op, .int .i64 rd, .int .i64 rs1, .int .i64 rs2, .int .u32 imm, .int .i64 csr]] W fun e w' => e = .returned (.tuple #[.string (with2 n (regS rs2) (besideS imm rs1)), .int .i64 0]) ∧ Below W.heap.size W w' := by
  have k0 := nb h0
  clear h0
  have Grd := Lib.hid (fun v => register_c rd hrd v)
  have zsd := regS_size rd hrd
  have Grs1 := Lib.hid (fun v => register_c rs1 hrs1 v)
  have zs1 := regS_size rs1 hrs1
  have Grs2 := Lib.hid (fun v => register_c rs2 hrs2 v)
  have zs2 := regS_size rs2 hrs2
  have GX := Lib.hid (fun v => beside_c op rd rs1 rs2 imm csr hi hrs1 v)
  have zx := besideS_size imm rs1 hi hrs1
  generalize besideS imm rs1 = sx at *
  generalize regS rd = sd at *
  generalize regS rs1 = s1 at *
  generalize regS rs2 = s2 at *
  have HW := Lib.hid (fun V => with2_c n s2 sx hn (by omega) (by omega) V)
  clear hn zsd zs1 zs2 hrd hrs1 hrs2 hcsr hi zx
  have hbw := bal (Below.refl W.heap.size W) (.cells #[.int .i64 op, .int .i64 rd, .int .i64 rs1, .int .i64 rs2, .int .u32 imm, .int .i64 csr] 53)
  have HBW := Lib.hid hbw
  clear hbw
  go_enter Tryd.func22, Tryd.ntmps22
  go_wp2_with fail
  refine (HR.out _ HBW.out).mono ?_
  rintro e w1 ⟨rfl, hb1⟩
  have hc := (bcf hb1).1
  have HB1 := Lib.hid (bthen HBW.out hb1)
  have z1 : W.heap.size < w1.heap.size := by have := hb1.size; simp at this; omega
  have c0 := (hc W.heap.size 0 (by simp)).trans (show _ = some (.int .i64 op) by simp [go_sem])
  have c1 := (hc W.heap.size 1 (by simp)).trans (show _ = some (.int .i64 rd) by simp [go_sem])
  have c2 := (hc W.heap.size 2 (by simp)).trans (show _ = some (.int .i64 rs1) by simp [go_sem])
  have c3 := (hc W.heap.size 3 (by simp)).trans (show _ = some (.int .i64 rs2) by simp [go_sem])
  have c4 := (hc W.heap.size 4 (by simp)).trans (show _ = some (.int .u32 imm) by simp [go_sem])
  have c5 := (hc W.heap.size 5 (by simp)).trans (show _ = some (.int .i64 csr) by simp [go_sem])
  clear hb1 hc
  go_wp2_with fail
  refine (HN.out _ HB1.out).mono ?_
  rintro e w' ⟨rfl, rfl⟩
  go_wp2_with fail
  refine (HF.out _ HB1.out).mono ?_
  rintro e w' ⟨rfl, rfl⟩
  go_wp2
  refine wp_region_below (by kernel_rfl) (by kernel_rfl) ?_
  intro S _ F hF hS
  have d0 := fcell hF c0
  have d1 := fcell hF c1
  have d2 := fcell hF c2
  have d3 := fcell hF c3
  have d4 := fcell hF c4
  have d5 := fcell hF c5
  repeat (go_big_quiet_step (first | (go_at_call 19; exact qbelow hS (Grd.out _)) | (go_at_call 19; exact qbelow hS (Grs1.out _)) | (go_at_call 19; exact qbelow hS (Grs2.out _))))
  refine wpQuiet_nil ?_
  intro w3 hw3
  obtain ⟨s3', rfl⟩ := hw3
  have HB3 := Lib.hid (bthen HB1.out (hF s3'))
  have e0 := d0 s3'
  have e1 := d1 s3'
  have e2 := d2 s3'
  have e3 := d3 s3'
  have e4 := d4 s3'
  have e5 := d5 s3'
  clear c0 c1 c2 c3 c4 c5 d0 d1 d2 d3 d4 d5 hF hS z1
  generalize F s3' = w3 at *
  go_wp2_with (first | (go_at_call 50; with_reducible refine Calls.mono (GX.out _) ?_; rintro e w4 ⟨rfl, hb4⟩) | (go_at_call 47; refine (HW.out _).mono ?_; rintro e w6 ⟨rfl, ⟨nd, rfl⟩⟩) | fail)
  go_ret2
  exact ⟨rfl, by repeat (first | (with_reducible exact HB3.out) | (with_reducible refine bdn ?_ _) | (with_reducible refine bal ?_ _) | (with_reducible refine bthen ?_ hb5) | (with_reducible refine bthen ?_ hb4))⟩
set_option maxHeartbeats 8000000 in
set_option maxRecDepth 100000 in
theorem dtext_f6 (op rd rs1 rs2 imm csr : Int) (n : ByteArray) (hn : n.size ≤ 100) (h0 : ¬ op = 0) (hrd : I64 rd) (hrs1 : I64 rs1) (hrs2 : I64 rs2) (hcsr : I64 csr) (hi : 0 ≤ imm ∧ imm ≤ 4294967295) (W : World)
    (HR : Hid (∀ v, Below W.heap.size W v → Calls Tryd.prog 44 #[.agg #[.int .i64 op, .int .i64 rd, .int .i64 rs1, .int .i64 rs2, .int .u32 imm, .int .i64 csr]] v fun e w' => e = .returned (.bool true) ∧ Below v.heap.size v w'))
    (HN : Hid (∀ v, Below W.heap.size W v → Calls Tryd.prog 45 #[.int .i64 op] v fun e w' => e = .returned (.tuple #[.string n, .int .i64 0]) ∧ v = w'))
    (HF : Hid (∀ v, Below W.heap.size W v → Calls Tryd.prog 46 #[.int .i64 op] v fun e w' => e = .returned (.tuple #[.int .i64 6, .int .i64 0]) ∧ v = w')) :
    Calls Tryd.prog 22 #[.agg #[.int .i64 op, .int .i64 rd, .int .i64 rs1, .int .i64 rs2, .int .u32 imm, .int .i64 csr]] W fun e w' => e = .returned (.tuple #[.string (with3 n (regS rd) (regS rs1) (regS rs2)), .int .i64 0]) ∧ Below W.heap.size W w' := by
  have k0 := nb h0
  clear h0
  have Grd := Lib.hid (fun v => register_c rd hrd v)
  have zsd := regS_size rd hrd
  have Grs1 := Lib.hid (fun v => register_c rs1 hrs1 v)
  have zs1 := regS_size rs1 hrs1
  have Grs2 := Lib.hid (fun v => register_c rs2 hrs2 v)
  have zs2 := regS_size rs2 hrs2
  generalize regS rd = sd at *
  generalize regS rs1 = s1 at *
  generalize regS rs2 = s2 at *
  have HW := Lib.hid (fun V => with3_c n sd s1 s2 hn (by omega) (by omega) (by omega) V)
  clear hn zsd zs1 zs2 hrd hrs1 hrs2 hcsr hi
  have hbw := bal (Below.refl W.heap.size W) (.cells #[.int .i64 op, .int .i64 rd, .int .i64 rs1, .int .i64 rs2, .int .u32 imm, .int .i64 csr] 53)
  have HBW := Lib.hid hbw
  clear hbw
  go_enter Tryd.func22, Tryd.ntmps22
  go_wp2_with fail
  refine (HR.out _ HBW.out).mono ?_
  rintro e w1 ⟨rfl, hb1⟩
  have hc := (bcf hb1).1
  have HB1 := Lib.hid (bthen HBW.out hb1)
  have z1 : W.heap.size < w1.heap.size := by have := hb1.size; simp at this; omega
  have c0 := (hc W.heap.size 0 (by simp)).trans (show _ = some (.int .i64 op) by simp [go_sem])
  have c1 := (hc W.heap.size 1 (by simp)).trans (show _ = some (.int .i64 rd) by simp [go_sem])
  have c2 := (hc W.heap.size 2 (by simp)).trans (show _ = some (.int .i64 rs1) by simp [go_sem])
  have c3 := (hc W.heap.size 3 (by simp)).trans (show _ = some (.int .i64 rs2) by simp [go_sem])
  have c4 := (hc W.heap.size 4 (by simp)).trans (show _ = some (.int .u32 imm) by simp [go_sem])
  have c5 := (hc W.heap.size 5 (by simp)).trans (show _ = some (.int .i64 csr) by simp [go_sem])
  clear hb1 hc
  go_wp2_with fail
  refine (HN.out _ HB1.out).mono ?_
  rintro e w' ⟨rfl, rfl⟩
  go_wp2_with fail
  refine (HF.out _ HB1.out).mono ?_
  rintro e w' ⟨rfl, rfl⟩
  go_wp2
  refine wp_region_below (by kernel_rfl) (by kernel_rfl) ?_
  intro S _ F hF hS
  have d0 := fcell hF c0
  have d1 := fcell hF c1
  have d2 := fcell hF c2
  have d3 := fcell hF c3
  have d4 := fcell hF c4
  have d5 := fcell hF c5
  repeat (go_big_quiet_step (first | (go_at_call 19; exact qbelow hS (Grd.out _)) | (go_at_call 19; exact qbelow hS (Grs1.out _)) | (go_at_call 19; exact qbelow hS (Grs2.out _))))
  refine wpQuiet_nil ?_
  intro w3 hw3
  obtain ⟨s3', rfl⟩ := hw3
  have HB3 := Lib.hid (bthen HB1.out (hF s3'))
  have e0 := d0 s3'
  have e1 := d1 s3'
  have e2 := d2 s3'
  have e3 := d3 s3'
  have e4 := d4 s3'
  have e5 := d5 s3'
  clear c0 c1 c2 c3 c4 c5 d0 d1 d2 d3 d4 d5 hF hS z1
  generalize F s3' = w3 at *
  go_wp2_with (first | (go_at_call 47; refine (HW.out _).mono ?_; rintro e w6 ⟨rfl, ⟨nd, rfl⟩⟩) | fail)
  go_ret2
  exact ⟨rfl, by repeat (first | (with_reducible exact HB3.out) | (with_reducible refine bdn ?_ _) | (with_reducible refine bal ?_ _) | (with_reducible refine bthen ?_ hb5) | (with_reducible refine bthen ?_ hb4))⟩
set_option maxHeartbeats 8000000 in
set_option maxRecDepth 100000 in
theorem dtext_f7 (op rd rs1 rs2 imm csr : Int) (n : ByteArray) (hn : n.size ≤ 100) (h0 : ¬ op = 0) (hrd : I64 rd) (hrs1 : I64 rs1) (hrs2 : I64 rs2) (hcsr : I64 csr) (hi : 0 ≤ imm ∧ imm ≤ 4294967295) (W : World)
    (HR : Hid (∀ v, Below W.heap.size W v → Calls Tryd.prog 44 #[.agg #[.int .i64 op, .int .i64 rd, .int .i64 rs1, .int .i64 rs2, .int .u32 imm, .int .i64 csr]] v fun e w' => e = .returned (.bool true) ∧ Below v.heap.size v w'))
    (HN : Hid (∀ v, Below W.heap.size W v → Calls Tryd.prog 45 #[.int .i64 op] v fun e w' => e = .returned (.tuple #[.string n, .int .i64 0]) ∧ v = w'))
    (HF : Hid (∀ v, Below W.heap.size W v → Calls Tryd.prog 46 #[.int .i64 op] v fun e w' => e = .returned (.tuple #[.int .i64 7, .int .i64 0]) ∧ v = w')) :
    Calls Tryd.prog 22 #[.agg #[.int .i64 op, .int .i64 rd, .int .i64 rs1, .int .i64 rs2, .int .u32 imm, .int .i64 csr]] W fun e w' => e = .returned (.tuple #[.string (with3 n (regS rd) (regS rs1) (numS imm)), .int .i64 0]) ∧ Below W.heap.size W w' := by
  have k0 := nb h0
  clear h0
  have Grd := Lib.hid (fun v => register_c rd hrd v)
  have zsd := regS_size rd hrd
  have Grs1 := Lib.hid (fun v => register_c rs1 hrs1 v)
  have zs1 := regS_size rs1 hrs1
  have Grs2 := Lib.hid (fun v => register_c rs2 hrs2 v)
  have zs2 := regS_size rs2 hrs2
  have GX := Lib.hid (fun v => number_c imm ⟨by omega, by omega⟩ v)
  have zx := numS_size imm ⟨by omega, by omega⟩
  generalize numS imm = sn at *
  generalize regS rd = sd at *
  generalize regS rs1 = s1 at *
  generalize regS rs2 = s2 at *
  have HW := Lib.hid (fun V => with3_c n sd s1 sn hn (by omega) (by omega) (by omega) V)
  have wi : IntKind.i64.wrap imm = imm := IntWalk.i64_in _ ⟨by omega, by omega⟩
  have wj : wrap64 imm = imm := by unfold wrap64; omega
  clear hn zsd zs1 zs2 hrd hrs1 hrs2 hcsr hi zx
  have hbw := bal (Below.refl W.heap.size W) (.cells #[.int .i64 op, .int .i64 rd, .int .i64 rs1, .int .i64 rs2, .int .u32 imm, .int .i64 csr] 53)
  have HBW := Lib.hid hbw
  clear hbw
  go_enter Tryd.func22, Tryd.ntmps22
  go_wp2_with fail
  refine (HR.out _ HBW.out).mono ?_
  rintro e w1 ⟨rfl, hb1⟩
  have hc := (bcf hb1).1
  have HB1 := Lib.hid (bthen HBW.out hb1)
  have z1 : W.heap.size < w1.heap.size := by have := hb1.size; simp at this; omega
  have c0 := (hc W.heap.size 0 (by simp)).trans (show _ = some (.int .i64 op) by simp [go_sem])
  have c1 := (hc W.heap.size 1 (by simp)).trans (show _ = some (.int .i64 rd) by simp [go_sem])
  have c2 := (hc W.heap.size 2 (by simp)).trans (show _ = some (.int .i64 rs1) by simp [go_sem])
  have c3 := (hc W.heap.size 3 (by simp)).trans (show _ = some (.int .i64 rs2) by simp [go_sem])
  have c4 := (hc W.heap.size 4 (by simp)).trans (show _ = some (.int .u32 imm) by simp [go_sem])
  have c5 := (hc W.heap.size 5 (by simp)).trans (show _ = some (.int .i64 csr) by simp [go_sem])
  clear hb1 hc
  go_wp2_with fail
  refine (HN.out _ HB1.out).mono ?_
  rintro e w' ⟨rfl, rfl⟩
  go_wp2_with fail
  refine (HF.out _ HB1.out).mono ?_
  rintro e w' ⟨rfl, rfl⟩
  go_wp2
  refine wp_region_below (by kernel_rfl) (by kernel_rfl) ?_
  intro S _ F hF hS
  have d0 := fcell hF c0
  have d1 := fcell hF c1
  have d2 := fcell hF c2
  have d3 := fcell hF c3
  have d4 := fcell hF c4
  have d5 := fcell hF c5
  repeat (go_big_quiet_step (first | (go_at_call 19; exact qbelow hS (Grd.out _)) | (go_at_call 19; exact qbelow hS (Grs1.out _)) | (go_at_call 19; exact qbelow hS (Grs2.out _))))
  refine wpQuiet_nil ?_
  intro w3 hw3
  obtain ⟨s3', rfl⟩ := hw3
  have HB3 := Lib.hid (bthen HB1.out (hF s3'))
  have e0 := d0 s3'
  have e1 := d1 s3'
  have e2 := d2 s3'
  have e3 := d3 s3'
  have e4 := d4 s3'
  have e5 := d5 s3'
  clear c0 c1 c2 c3 c4 c5 d0 d1 d2 d3 d4 d5 hF hS z1
  generalize F s3' = w3 at *
  go_wp2_with (first | (go_at_call 17; with_reducible refine Calls.mono (GX.out _) ?_; rintro e w4 ⟨rfl, hb4⟩) | (go_at_call 47; refine (HW.out _).mono ?_; rintro e w6 ⟨rfl, ⟨nd, rfl⟩⟩) | fail)
  go_ret2
  exact ⟨rfl, by repeat (first | (with_reducible exact HB3.out) | (with_reducible refine bdn ?_ _) | (with_reducible refine bal ?_ _) | (with_reducible refine bthen ?_ hb5) | (with_reducible refine bthen ?_ hb4))⟩
set_option maxHeartbeats 8000000 in
set_option maxRecDepth 100000 in
theorem dtext_f8 (op rd rs1 rs2 imm csr : Int) (n : ByteArray) (hn : n.size ≤ 100) (h0 : ¬ op = 0) (hrd : I64 rd) (hrs1 : I64 rs1) (hrs2 : I64 rs2) (hcsr : I64 csr) (hi : 0 ≤ imm ∧ imm ≤ 4294967295) (W : World)
    (HR : Hid (∀ v, Below W.heap.size W v → Calls Tryd.prog 44 #[.agg #[.int .i64 op, .int .i64 rd, .int .i64 rs1, .int .i64 rs2, .int .u32 imm, .int .i64 csr]] v fun e w' => e = .returned (.bool true) ∧ Below v.heap.size v w'))
    (HN : Hid (∀ v, Below W.heap.size W v → Calls Tryd.prog 45 #[.int .i64 op] v fun e w' => e = .returned (.tuple #[.string n, .int .i64 0]) ∧ v = w'))
    (HF : Hid (∀ v, Below W.heap.size W v → Calls Tryd.prog 46 #[.int .i64 op] v fun e w' => e = .returned (.tuple #[.int .i64 8, .int .i64 0]) ∧ v = w')) :
    Calls Tryd.prog 22 #[.agg #[.int .i64 op, .int .i64 rd, .int .i64 rs1, .int .i64 rs2, .int .u32 imm, .int .i64 csr]] W fun e w' => e = .returned (.tuple #[.string (with3 n (regS rd) (numS csr) (regS rs1)), .int .i64 0]) ∧ Below W.heap.size W w' := by
  have k0 := nb h0
  clear h0
  have Grd := Lib.hid (fun v => register_c rd hrd v)
  have zsd := regS_size rd hrd
  have Grs1 := Lib.hid (fun v => register_c rs1 hrs1 v)
  have zs1 := regS_size rs1 hrs1
  have Grs2 := Lib.hid (fun v => register_c rs2 hrs2 v)
  have zs2 := regS_size rs2 hrs2
  have GC := Lib.hid (fun v => number_c csr hcsr v)
  have zc := numS_size csr hcsr
  generalize numS csr = sc at *
  generalize regS rd = sd at *
  generalize regS rs1 = s1 at *
  generalize regS rs2 = s2 at *
  have HW := Lib.hid (fun V => with3_c n sd sc s1 hn (by omega) (by omega) (by omega) V)
  clear hn zsd zs1 zs2 hrd hrs1 hrs2 hcsr hi zc
  have hbw := bal (Below.refl W.heap.size W) (.cells #[.int .i64 op, .int .i64 rd, .int .i64 rs1, .int .i64 rs2, .int .u32 imm, .int .i64 csr] 53)
  have HBW := Lib.hid hbw
  clear hbw
  go_enter Tryd.func22, Tryd.ntmps22
  go_wp2_with fail
  refine (HR.out _ HBW.out).mono ?_
  rintro e w1 ⟨rfl, hb1⟩
  have hc := (bcf hb1).1
  have HB1 := Lib.hid (bthen HBW.out hb1)
  have z1 : W.heap.size < w1.heap.size := by have := hb1.size; simp at this; omega
  have c0 := (hc W.heap.size 0 (by simp)).trans (show _ = some (.int .i64 op) by simp [go_sem])
  have c1 := (hc W.heap.size 1 (by simp)).trans (show _ = some (.int .i64 rd) by simp [go_sem])
  have c2 := (hc W.heap.size 2 (by simp)).trans (show _ = some (.int .i64 rs1) by simp [go_sem])
  have c3 := (hc W.heap.size 3 (by simp)).trans (show _ = some (.int .i64 rs2) by simp [go_sem])
  have c4 := (hc W.heap.size 4 (by simp)).trans (show _ = some (.int .u32 imm) by simp [go_sem])
  have c5 := (hc W.heap.size 5 (by simp)).trans (show _ = some (.int .i64 csr) by simp [go_sem])
  clear hb1 hc
  go_wp2_with fail
  refine (HN.out _ HB1.out).mono ?_
  rintro e w' ⟨rfl, rfl⟩
  go_wp2_with fail
  refine (HF.out _ HB1.out).mono ?_
  rintro e w' ⟨rfl, rfl⟩
  go_wp2
  refine wp_region_below (by kernel_rfl) (by kernel_rfl) ?_
  intro S _ F hF hS
  have d0 := fcell hF c0
  have d1 := fcell hF c1
  have d2 := fcell hF c2
  have d3 := fcell hF c3
  have d4 := fcell hF c4
  have d5 := fcell hF c5
  repeat (go_big_quiet_step (first | (go_at_call 19; exact qbelow hS (Grd.out _)) | (go_at_call 19; exact qbelow hS (Grs1.out _)) | (go_at_call 19; exact qbelow hS (Grs2.out _))))
  refine wpQuiet_nil ?_
  intro w3 hw3
  obtain ⟨s3', rfl⟩ := hw3
  have HB3 := Lib.hid (bthen HB1.out (hF s3'))
  have e0 := d0 s3'
  have e1 := d1 s3'
  have e2 := d2 s3'
  have e3 := d3 s3'
  have e4 := d4 s3'
  have e5 := d5 s3'
  clear c0 c1 c2 c3 c4 c5 d0 d1 d2 d3 d4 d5 hF hS z1
  generalize F s3' = w3 at *
  go_wp2_with (first | (go_at_call 17; with_reducible refine Calls.mono (GC.out _) ?_; rintro e w4 ⟨rfl, hb4⟩) | (go_at_call 47; refine (HW.out _).mono ?_; rintro e w6 ⟨rfl, ⟨nd, rfl⟩⟩) | fail)
  go_ret2
  exact ⟨rfl, by repeat (first | (with_reducible exact HB3.out) | (with_reducible refine bdn ?_ _) | (with_reducible refine bal ?_ _) | (with_reducible refine bthen ?_ hb5) | (with_reducible refine bthen ?_ hb4))⟩
set_option maxHeartbeats 8000000 in
set_option maxRecDepth 100000 in
theorem dtext_f9 (op rd rs1 rs2 imm csr : Int) (n : ByteArray) (hn : n.size ≤ 100) (h0 : ¬ op = 0) (hrd : I64 rd) (hrs1 : I64 rs1) (hrs2 : I64 rs2) (hcsr : I64 csr) (hi : 0 ≤ imm ∧ imm ≤ 4294967295) (W : World)
    (HR : Hid (∀ v, Below W.heap.size W v → Calls Tryd.prog 44 #[.agg #[.int .i64 op, .int .i64 rd, .int .i64 rs1, .int .i64 rs2, .int .u32 imm, .int .i64 csr]] v fun e w' => e = .returned (.bool true) ∧ Below v.heap.size v w'))
    (HN : Hid (∀ v, Below W.heap.size W v → Calls Tryd.prog 45 #[.int .i64 op] v fun e w' => e = .returned (.tuple #[.string n, .int .i64 0]) ∧ v = w'))
    (HF : Hid (∀ v, Below W.heap.size W v → Calls Tryd.prog 46 #[.int .i64 op] v fun e w' => e = .returned (.tuple #[.int .i64 9, .int .i64 0]) ∧ v = w')) :
    Calls Tryd.prog 22 #[.agg #[.int .i64 op, .int .i64 rd, .int .i64 rs1, .int .i64 rs2, .int .u32 imm, .int .i64 csr]] W fun e w' => e = .returned (.tuple #[.string (with3 n (regS rd) (numS csr) (numS imm)), .int .i64 0]) ∧ Below W.heap.size W w' := by
  have k0 := nb h0
  clear h0
  have Grd := Lib.hid (fun v => register_c rd hrd v)
  have zsd := regS_size rd hrd
  have Grs1 := Lib.hid (fun v => register_c rs1 hrs1 v)
  have zs1 := regS_size rs1 hrs1
  have Grs2 := Lib.hid (fun v => register_c rs2 hrs2 v)
  have zs2 := regS_size rs2 hrs2
  have GC := Lib.hid (fun v => number_c csr hcsr v)
  have zc := numS_size csr hcsr
  generalize numS csr = sc at *
  have GX := Lib.hid (fun v => number_c imm ⟨by omega, by omega⟩ v)
  have zx := numS_size imm ⟨by omega, by omega⟩
  generalize numS imm = sn at *
  generalize regS rd = sd at *
  generalize regS rs1 = s1 at *
  generalize regS rs2 = s2 at *
  have HW := Lib.hid (fun V => with3_c n sd sc sn hn (by omega) (by omega) (by omega) V)
  have wi : IntKind.i64.wrap imm = imm := IntWalk.i64_in _ ⟨by omega, by omega⟩
  have wj : wrap64 imm = imm := by unfold wrap64; omega
  have hN : Hid (n.size ≤ 100 ∧ sd.size ≤ 100 ∧ sc.size ≤ 100 ∧ sn.size ≤ 100) := Lib.hid ⟨hn, by omega, by omega, by omega⟩
  clear hn zsd zs1 zs2 hrd hrs1 hrs2 hcsr hi zx zc
  have hbw := bal (Below.refl W.heap.size W) (.cells #[.int .i64 op, .int .i64 rd, .int .i64 rs1, .int .i64 rs2, .int .u32 imm, .int .i64 csr] 53)
  have HBW := Lib.hid hbw
  clear hbw
  go_enter Tryd.func22, Tryd.ntmps22
  go_wp2_with fail
  refine (HR.out _ HBW.out).mono ?_
  rintro e w1 ⟨rfl, hb1⟩
  have hc := (bcf hb1).1
  have HB1 := Lib.hid (bthen HBW.out hb1)
  have z1 : W.heap.size < w1.heap.size := by have := hb1.size; simp at this; omega
  have c0 := (hc W.heap.size 0 (by simp)).trans (show _ = some (.int .i64 op) by simp [go_sem])
  have c1 := (hc W.heap.size 1 (by simp)).trans (show _ = some (.int .i64 rd) by simp [go_sem])
  have c2 := (hc W.heap.size 2 (by simp)).trans (show _ = some (.int .i64 rs1) by simp [go_sem])
  have c3 := (hc W.heap.size 3 (by simp)).trans (show _ = some (.int .i64 rs2) by simp [go_sem])
  have c4 := (hc W.heap.size 4 (by simp)).trans (show _ = some (.int .u32 imm) by simp [go_sem])
  have c5 := (hc W.heap.size 5 (by simp)).trans (show _ = some (.int .i64 csr) by simp [go_sem])
  clear hb1 hc
  go_wp2_with fail
  refine (HN.out _ HB1.out).mono ?_
  rintro e w' ⟨rfl, rfl⟩
  go_wp2_with fail
  refine (HF.out _ HB1.out).mono ?_
  rintro e w' ⟨rfl, rfl⟩
  go_wp2
  refine wp_region_below (by kernel_rfl) (by kernel_rfl) ?_
  intro S _ F hF hS
  have d0 := fcell hF c0
  have d1 := fcell hF c1
  have d2 := fcell hF c2
  have d3 := fcell hF c3
  have d4 := fcell hF c4
  have d5 := fcell hF c5
  repeat (go_big_quiet_step (first | (go_at_call 19; exact qbelow hS (Grd.out _)) | (go_at_call 19; exact qbelow hS (Grs1.out _)) | (go_at_call 19; exact qbelow hS (Grs2.out _))))
  refine wpQuiet_nil ?_
  intro w3 hw3
  obtain ⟨s3', rfl⟩ := hw3
  have HB3 := Lib.hid (bthen HB1.out (hF s3'))
  have e0 := d0 s3'
  have e1 := d1 s3'
  have e2 := d2 s3'
  have e3 := d3 s3'
  have e4 := d4 s3'
  have e5 := d5 s3'
  clear c0 c1 c2 c3 c4 c5 d0 d1 d2 d3 d4 d5 hF hS z1
  generalize F s3' = w3 at *
  have HW9 := Lib.hid (fun g V (h : cellsAt V g [(0, .string sd), (1, .string sc), (2, .string sn)]) => with3_at n sd sc sn hN.out.1 hN.out.2.1 hN.out.2.2.1 hN.out.2.2.2 g V h)
  clear hN HW
  have z3 : W.heap.size < w3.heap.size := World.block_lt_of_cell? w3 ⟨W.heap.size, 4, none⟩ e4
  go_wp2
  refine wp_region_fc (by kernel_rfl) (by kernel_rfl) [.is (.string n), .is (.string sd), .is (.pointer (some ⟨W.heap.size, 5, none⟩)), .is (.int .i64 csr), .is (.string sc), .is (.pointer (some ⟨W.heap.size, 4, none⟩)), .is (.int .u32 imm), .is (.int .i64 imm), .is (.string sn),
    .mem (fun g => .slice (some ⟨g, 0, none⟩) 3 3) [(0, .string sd), (1, .string sc), (2, .string sn)], .is (.string (with3 n sd sc sn)), .is (.string (with3 n sd sc sn)), .is (.int .i64 0)] ?_ ?_
  · intro vs w' hb'
    have q4 := (hb'.cell (p := ⟨W.heap.size, 4, none⟩) z3).trans e4
    have q5 := (hb'.cell (p := ⟨W.heap.size, 5, none⟩) z3).trans e5
    clear e0 e1 e2 e3 e4 e5
    simp only [factSteps, putAll, Act.put, List.setIfInBounds_toArray, List.set_cons_zero, List.set_cons_succ]
    refine ⟨?_, ?_, ?_, ?_, ?_, ?_, ?_, ?_, ?_, ?_, ?_, ?_, ?_, trivial⟩
    all_goals
      intro he
      simp only [factEdges, Region.binds, List.getD_cons_zero, List.getD_cons_succ, Fc.holds, true_implies, and_true] at he
      try (obtain ⟨hs1, ⟨g, hg, hcs⟩, he⟩ := he; simp only [hg, hs1])
      try simp only [he]
      go_wp2_with (first | (go_at_call 17; with_reducible refine Calls.mono (GC.out _) ?_; rintro e w4 ⟨rfl, hb4⟩) | (go_at_call 17; with_reducible refine Calls.mono (GX.out _) ?_; rintro e w4 ⟨rfl, hb4⟩) | (go_at_call 47; with_reducible refine Calls.mono (HW9.out g _ hcs) ?_; rintro e w6 ⟨rfl, ⟨nd, rfl⟩⟩))
      first
        | exact ⟨rfl, Below.refl _ _⟩
        | exact rfl
        | exact ⟨rfl, hb4⟩
        | exact ⟨rfl, bdn (Below.refl _ _) _⟩
        | exact ⟨⟨_, rfl, by simp [go_sem], by simp [go_sem], by simp [go_sem], trivial⟩, bal (Below.refl _ _) _⟩
  · intro vs w' hb' hall
    simp only [factSteps, List.getD_cons_zero, List.getD_cons_succ, Fc.holds, and_true] at hall
    obtain ⟨-, -, -, -, -, -, -, -, -, -, -, a11, a12⟩ := hall
    simp only [putAll, Act.put, List.setIfInBounds_toArray, List.set_cons_zero, List.set_cons_succ, a11, a12]
    go_wp2
    go_ret2
    exact ⟨rfl, bthen HB3.out hb'⟩
end Go.Proofs.YtnooikjkjcflbadDoor
