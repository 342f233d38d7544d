/- Contract of disasm.Text, form by form. Conditions: numbers are of their kinds; the instruction is right. -/
import Derived.Test.YtnooikjkjcflbadDoorUd
namespace Go.Proofs.YtnooikjkjcflbadDoor
open Go.RowKit Go.Proofs.YtnooikjkjcflbadDoorW.PrintWords Go.Proofs.YtnooikjkjcflbadDoorW.PrintLast Go.Proofs.YtnooikjkjcflbadDoorW.PrintMore Go.Proofs.YtnooikjkjcflbadDoor.PDisasmWords
set_option linter.unusedVariables false
set_option linter.unusedSimpArgs false

set_option maxHeartbeats 8000000 in
set_option maxRecDepth 100000 in
theorem dtext_f0 (op rd rs1 rs2 imm csr : Int) (n : ByteArray) (hn : n.size ≤ 100) (h0 : ¬ op = 0) (hrd : I64 rd) (hrs1 : I64 rs1) (hrs2 : I64 rs2) (hcsr : I64 csr) (hi : 0 ≤ imm ∧ imm ≤ 4294967295) (W : World)
    (HR : Hid (∀ v, Below W.heap.size W v → Calls Tryd.prog 44 #[.agg #[.int .i64 op, .int .i64 rd, .int .i64 rs1, .int .i64 rs2, .int .u32 imm, .int .i64 csr]] v fun e w' => e = .returned (.bool true) ∧ Below v.heap.size v w'))
    (HN : Hid (∀ v, Below W.heap.size W v → Calls Tryd.prog 45 #[.int .i64 op] v fun e w' => e = .returned (.tuple #[.string n, .int .i64 0]) ∧ v = w'))
    (HF : Hid (∀ v, Below W.heap.size W v → Calls Tryd.prog 46 #[.int .i64 op] v fun e w' => e = .returned (.tuple #[.int .i64 0, .int .i64 0]) ∧ v = w')) :
    Calls Tryd.prog 22 #[.agg #[.int .i64 op, .int .i64 rd, .int .i64 rs1, .int .i64 rs2, .int .u32 imm, .int .i64 csr]] W fun e w' => e = .returned (.tuple #[.string (n), .int .i64 0]) ∧ Below W.heap.size W w' := by
  have k0 := nb h0
  clear h0
  have Grd := Lib.hid (fun v => register_c rd hrd v)
  have zsd := regS_size rd hrd
  have Grs1 := Lib.hid (fun v => register_c rs1 hrs1 v)
  have zs1 := regS_size rs1 hrs1
  have Grs2 := Lib.hid (fun v => register_c rs2 hrs2 v)
  have zs2 := regS_size rs2 hrs2
  generalize regS rd = sd at *
  generalize regS rs1 = s1 at *
  generalize regS rs2 = s2 at *
  clear hn zsd zs1 zs2 hrd hrs1 hrs2 hcsr hi
  have hbw := bal (Below.refl W.heap.size W) (.cells #[.int .i64 op, .int .i64 rd, .int .i64 rs1, .int .i64 rs2, .int .u32 imm, .int .i64 csr] 53)
  have HBW := Lib.hid hbw
  clear hbw
  go_enter Tryd.func22, Tryd.ntmps22
  go_wp2_with fail
  refine (HR.out _ HBW.out).mono ?_
  rintro e w1 ⟨rfl, hb1⟩
  have hc := (bcf hb1).1
  have HB1 := Lib.hid (bthen HBW.out hb1)
  have z1 : W.heap.size < w1.heap.size := by have := hb1.size; simp at this; omega
  have c0 := (hc W.heap.size 0 (by simp)).trans (show _ = some (.int .i64 op) by simp [go_sem])
  have c1 := (hc W.heap.size 1 (by simp)).trans (show _ = some (.int .i64 rd) by simp [go_sem])
  have c2 := (hc W.heap.size 2 (by simp)).trans (show _ = some (.int .i64 rs1) by simp [go_sem])
  have c3 := (hc W.heap.size 3 (by simp)).trans (show _ = some (.int .i64 rs2) by simp [go_sem])
  have c4 := (hc W.heap.size 4 (by simp)).trans (show _ = some (.int .u32 imm) by simp [go_sem])
  have c5 := (hc W.heap.size 5 (by simp)).trans (show _ = some (.int .i64 csr) by simp [go_sem])
  clear hb1 hc
  go_wp2_with fail
  refine (HN.out _ HB1.out).mono ?_
  rintro e w' ⟨rfl, rfl⟩
  go_wp2_with fail
  refine (HF.out _ HB1.out).mono ?_
  rintro e w' ⟨rfl, rfl⟩
  go_wp2
  refine wp_region_below (by kernel_rfl) (by kernel_rfl) ?_
  intro S _ F hF hS
  have d0 := fcell hF c0
  have d1 := fcell hF c1
  have d2 := fcell hF c2
  have d3 := fcell hF c3
  have d4 := fcell hF c4
  have d5 := fcell hF c5
  repeat (go_big_quiet_step (first | (go_at_call 19; exact qbelow hS (Grd.out _)) | (go_at_call 19; exact qbelow hS (Grs1.out _)) | (go_at_call 19; exact qbelow hS (Grs2.out _))))
  refine wpQuiet_nil ?_
  intro w3 hw3
  obtain ⟨s3', rfl⟩ := hw3
  have HB3 := Lib.hid (bthen HB1.out (hF s3'))
  have e0 := d0 s3'
  have e1 := d1 s3'
  have e2 := d2 s3'
  have e3 := d3 s3'
  have e4 := d4 s3'
  have e5 := d5 s3'
  clear c0 c1 c2 c3 c4 c5 d0 d1 d2 d3 d4 d5 hF hS z1
  generalize F s3' = w3 at *
  go_wp2_with (first | fail)
  go_ret2
  exact ⟨rfl, by repeat (first | (with_reducible exact HB3.out) | (with_reducible refine bdn ?_ _) | (with_reducible refine bal ?_ _) | (with_reducible refine bthen ?_ hb5) | (with_reducible refine bthen ?_ hb4))⟩
set_option maxHeartbeats 8000000 in
set_option maxRecDepth 100000 in
theorem dtext_f1 (op rd rs1 rs2 imm csr : Int) (n : ByteArray) (hn : n.size ≤ 100) (h0 : ¬ op = 0) (hrd : I64 rd) (hrs1 : I64 rs1) (hrs2 : I64 rs2) (hcsr : I64 csr) (hi : 0 ≤ imm ∧ imm ≤ 4294967295) (W : World)
    (HR : Hid (∀ v, Below W.heap.size W v → Calls Tryd.prog 44 #[.agg #[.int .i64 op, .int .i64 rd, .int .i64 rs1, .int .i64 rs2, .int .u32 imm, .int .i64 csr]] v fun e w' => e = .returned (.bool true) ∧ Below v.heap.size v w'))
    (HN : Hid (∀ v, Below W.heap.size W v → Calls Tryd.prog 45 #[.int .i64 op] v fun e w' => e = .returned (.tuple #[.string n, .int .i64 0]) ∧ v = w'))
    (HF : Hid (∀ v, Below W.heap.size W v → Calls Tryd.prog 46 #[.int .i64 op] v fun e w' => e = .returned (.tuple #[.int .i64 1, .int .i64 0]) ∧ v = w')) :
    Calls Tryd.prog 22 #[.agg #[.int .i64 op, .int .i64 rd, .int .i64 rs1, .int .i64 rs2, .int .u32 imm, .int .i64 csr]] W fun e w' => e = .returned (.tuple #[.string (with2 n (regS rd) (numS (imm / 4096))), .int .i64 0]) ∧ Below W.heap.size W w' := by
  have k0 := nb h0
  clear h0
  have Grd := Lib.hid (fun v => register_c rd hrd v)
  have zsd := regS_size rd hrd
  have Grs1 := Lib.hid (fun v => register_c rs1 hrs1 v)
  have zs1 := regS_size rs1 hrs1
  have Grs2 := Lib.hid (fun v => register_c rs2 hrs2 v)
  have zs2 := regS_size rs2 hrs2
  have GX := Lib.hid (fun v => number_c (imm / 4096) ⟨by omega, by omega⟩ v)
  have zx := numS_size (imm / 4096) ⟨by omega, by omega⟩
  generalize numS (imm / 4096) = sx at *
  generalize regS rd = sd at *
  generalize regS rs1 = s1 at *
  generalize regS rs2 = s2 at *
  have HW := Lib.hid (fun V => with2_c n sd sx hn (by omega) (by omega) V)
  have wj : wrap64 (imm / 4096) = imm / 4096 := by unfold wrap64; omega
  clear hn zsd zs1 zs2 hrd hrs1 hrs2 hcsr hi zx
  have hbw := bal (Below.refl W.heap.size W) (.cells #[.int .i64 op, .int .i64 rd, .int .i64 rs1, .int .i64 rs2, .int .u32 imm, .int .i64 csr] 53)
  have HBW := Lib.hid hbw
  clear hbw
  go_enter Tryd.func22, Tryd.ntmps22
  go_wp2_with fail
  refine (HR.out _ HBW.out).mono ?_
  rintro e w1 ⟨rfl, hb1⟩
  have hc := (bcf hb1).1
  have HB1 := Lib.hid (bthen HBW.out hb1)
  have z1 : W.heap.size < w1.heap.size := by have := hb1.size; simp at this; omega
  have c0 := (hc W.heap.size 0 (by simp)).trans (show _ = some (.int .i64 op) by simp [go_sem])
  have c1 := (hc W.heap.size 1 (by simp)).trans (show _ = some (.int .i64 rd) by simp [go_sem])
  have c2 := (hc W.heap.size 2 (by simp)).trans (show _ = some (.int .i64 rs1) by simp [go_sem])
  have c3 := (hc W.heap.size 3 (by simp)).trans (show _ = some (.int .i64 rs2) by simp [go_sem])
  have c4 := (hc W.heap.size 4 (by simp)).trans (show _ = some (.int .u32 imm) by simp [go_sem])
  have c5 := (hc W.heap.size 5 (by simp)).trans (show _ = some (.int .i64 csr) by simp [go_sem])
  clear hb1 hc
  go_wp2_with fail
  refine (HN.out _ HB1.out).mono ?_
  rintro e w' ⟨rfl, rfl⟩
  go_wp2_with fail
  refine (HF.out _ HB1.out).mono ?_
  rintro e w' ⟨rfl, rfl⟩
  go_wp2
  refine wp_region_below (by kernel_rfl) (by kernel_rfl) ?_
  intro S _ F hF hS
  have d0 := fcell hF c0
  have d1 := fcell hF c1
  have d2 := fcell hF c2
  have d3 := fcell hF c3
  have d4 := fcell hF c4
  have d5 := fcell hF c5
  repeat (go_big_quiet_step (first | (go_at_call 19; exact qbelow hS (Grd.out _)) | (go_at_call 19; exact qbelow hS (Grs1.out _)) | (go_at_call 19; exact qbelow hS (Grs2.out _))))
  refine wpQuiet_nil ?_
  intro w3 hw3
  obtain ⟨s3', rfl⟩ := hw3
  have HB3 := Lib.hid (bthen HB1.out (hF s3'))
  have e0 := d0 s3'
  have e1 := d1 s3'
  have e2 := d2 s3'
  have e3 := d3 s3'
  have e4 := d4 s3'
  have e5 := d5 s3'
  clear c0 c1 c2 c3 c4 c5 d0 d1 d2 d3 d4 d5 hF hS z1
  generalize F s3' = w3 at *
  go_wp2_with (first | (go_at_call 17; with_reducible refine Calls.mono (GX.out _) ?_; rintro e w4 ⟨rfl, hb4⟩) | (go_at_call 47; refine (HW.out _).mono ?_; rintro e w6 ⟨rfl, ⟨nd, rfl⟩⟩) | fail)
  go_ret2
  exact ⟨rfl, by repeat (first | (with_reducible exact HB3.out) | (with_reducible refine bdn ?_ _) | (with_reducible refine bal ?_ _) | (with_reducible refine bthen ?_ hb5) | (with_reducible refine bthen ?_ hb4))⟩
set_option maxHeartbeats 8000000 in
set_option maxRecDepth 100000 in
theorem dtext_f2 (op rd rs1 rs2 imm csr : Int) (n : ByteArray) (hn : n.size ≤ 100) (h0 : ¬ op = 0) (hrd : I64 rd) (hrs1 : I64 rs1) (hrs2 : I64 rs2) (hcsr : I64 csr) (hi : 0 ≤ imm ∧ imm ≤ 4294967295) (W : World)
    (HR : Hid (∀ v, Below W.heap.size W v → Calls Tryd.prog 44 #[.agg #[.int .i64 op, .int .i64 rd, .int .i64 rs1, .int .i64 rs2, .int .u32 imm, .int .i64 csr]] v fun e w' => e = .returned (.bool true) ∧ Below v.heap.size v w'))
    (HN : Hid (∀ v, Below W.heap.size W v → Calls Tryd.prog 45 #[.int .i64 op] v fun e w' => e = .returned (.tuple #[.string n, .int .i64 0]) ∧ v = w'))
    (HF : Hid (∀ v, Below W.heap.size W v → Calls Tryd.prog 46 #[.int .i64 op] v fun e w' => e = .returned (.tuple #[.int .i64 2, .int .i64 0]) ∧ v = w')) :
    Calls Tryd.prog 22 #[.agg #[.int .i64 op, .int .i64 rd, .int .i64 rs1, .int .i64 rs2, .int .u32 imm, .int .i64 csr]] W fun e w' => e = .returned (.tuple #[.string (with2 n (regS rd) (numS (wrap32 imm))), .int .i64 0]) ∧ Below W.heap.size W w' := by
  have k0 := nb h0
  clear h0
  have Grd := Lib.hid (fun v => register_c rd hrd v)
  have zsd := regS_size rd hrd
  have Grs1 := Lib.hid (fun v => register_c rs1 hrs1 v)
  have zs1 := regS_size rs1 hrs1
  have Grs2 := Lib.hid (fun v => register_c rs2 hrs2 v)
  have zs2 := regS_size rs2 hrs2
  have GX := Lib.hid (fun v => signed_c imm hi v)
  have zx := numS_size _ (w32_i64 imm hi)
  generalize numS (wrap32 imm) = sx at *
  generalize regS rd = sd at *
  generalize regS rs1 = s1 at *
  generalize regS rs2 = s2 at *
  have HW := Lib.hid (fun V => with2_c n sd sx hn (by omega) (by omega) V)
  clear hn zsd zs1 zs2 hrd hrs1 hrs2 hcsr hi zx
  have hbw := bal (Below.refl W.heap.size W) (.cells #[.int .i64 op, .int .i64 rd, .int .i64 rs1, .int .i64 rs2, .int .u32 imm, .int .i64 csr] 53)
  have HBW := Lib.hid hbw
  clear hbw
  go_enter Tryd.func22, Tryd.ntmps22
  go_wp2_with fail
  refine (HR.out _ HBW.out).mono ?_
  rintro e w1 ⟨rfl, hb1⟩
  have hc := (bcf hb1).1
  have HB1 := Lib.hid (bthen HBW.out hb1)
  have z1 : W.heap.size < w1.heap.size := by have := hb1.size; simp at this; omega
  have c0 := (hc W.heap.size 0 (by simp)).trans (show _ = some (.int .i64 op) by simp [go_sem])
  have c1 := (hc W.heap.size 1 (by simp)).trans (show _ = some (.int .i64 rd) by simp [go_sem])
  have c2 := (hc W.heap.size 2 (by simp)).trans (show _ = some (.int .i64 rs1) by simp [go_sem])
  have c3 := (hc W.heap.size 3 (by simp)).trans (show _ = some (.int .i64 rs2) by simp [go_sem])
  have c4 := (hc W.heap.size 4 (by simp)).trans (show _ = some (.int .u32 imm) by simp [go_sem])
  have c5 := (hc W.heap.size 5 (by simp)).trans (show _ = some (.int .i64 csr) by simp [go_sem])
  clear hb1 hc
  go_wp2_with fail
  refine (HN.out _ HB1.out).mono ?_
  rintro e w' ⟨rfl, rfl⟩
  go_wp2_with fail
  refine (HF.out _ HB1.out).mono ?_
  rintro e w' ⟨rfl, rfl⟩
  go_wp2
  refine wp_region_below (by kernel_rfl) (by kernel_rfl) ?_
  intro S _ F hF hS
  have d0 := fcell hF c0
  have d1 := fcell hF c1
  have d2 := fcell hF c2
  have d3 := fcell hF c3
  have d4 := fcell hF c4
  have d5 := fcell hF c5
  repeat (go_big_quiet_step (first | (go_at_call 19; exact qbelow hS (Grd.out _)) | (go_at_call 19; exact qbelow hS (Grs1.out _)) | (go_at_call 19; exact qbelow hS (Grs2.out _))))
  refine wpQuiet_nil ?_
  intro w3 hw3
  obtain ⟨s3', rfl⟩ := hw3
  have HB3 := Lib.hid (bthen HB1.out (hF s3'))
  have e0 := d0 s3'
  have e1 := d1 s3'
  have e2 := d2 s3'
  have e3 := d3 s3'
  have e4 := d4 s3'
  have e5 := d5 s3'
  clear c0 c1 c2 c3 c4 c5 d0 d1 d2 d3 d4 d5 hF hS z1
  generalize F s3' = w3 at *
  go_wp2_with (first | (go_at_call 48; with_reducible refine Calls.mono (GX.out _) ?_; rintro e w4 ⟨rfl, hb4⟩) | (go_at_call 47; refine (HW.out _).mono ?_; rintro e w6 ⟨rfl, ⟨nd, rfl⟩⟩) | fail)
  go_ret2
  exact ⟨rfl, by repeat (first | (with_reducible exact HB3.out) | (with_reducible refine bdn ?_ _) | (with_reducible refine bal ?_ _) | (with_reducible refine bthen ?_ hb5) | (with_reducible refine bthen ?_ hb4))⟩
set_option maxHeartbeats 8000000 in
set_option maxRecDepth 100000 in
theorem dtext_f3a (op rd rs1 rs2 imm csr : Int) (n : ByteArray) (hn : n.size ≤ 100) (h0 : ¬ op = 0) (h4 : op = 4) (hrd : I64 rd) (hrs1 : I64 rs1) (hrs2 : I64 rs2) (hcsr : I64 csr) (hi : 0 ≤ imm ∧ imm ≤ 4294967295) (W : World)
    (HR : Hid (∀ v, Below W.heap.size W v → Calls Tryd.prog 44 #[.agg #[.int .i64 op, .int .i64 rd, .int .i64 rs1, .int .i64 rs2, .int .u32 imm, .int .i64 csr]] v fun e w' => e = .returned (.bool true) ∧ Below v.heap.size v w'))
    (HN : Hid (∀ v, Below W.heap.size W v → Calls Tryd.prog 45 #[.int .i64 op] v fun e w' => e = .returned (.tuple #[.string n, .int .i64 0]) ∧ v = w'))
    (HF : Hid (∀ v, Below W.heap.size W v → Calls Tryd.prog 46 #[.int .i64 op] v fun e w' => e = .returned (.tuple #[.int .i64 3, .int .i64 0]) ∧ v = w')) :
    Calls Tryd.prog 22 #[.agg #[.int .i64 op, .int .i64 rd, .int .i64 rs1, .int .i64 rs2, .int .u32 imm, .int .i64 csr]] W fun e w' => e = .returned (.tuple #[.string (with2 n (regS rd) (besideS imm rs1)), .int .i64 0]) ∧ Below W.heap.size W w' := by
  have k0 := nb h0
  clear h0
  have k4 := yb h4
  subst h4
  have Grd := Lib.hid (fun v => register_c rd hrd v)
  have zsd := regS_size rd hrd
  have Grs1 := Lib.hid (fun v => register_c rs1 hrs1 v)
  have zs1 := regS_size rs1 hrs1
  have Grs2 := Lib.hid (fun v => register_c rs2 hrs2 v)
  have zs2 := regS_size rs2 hrs2
  have GX := Lib.hid (fun v => beside_c 4 rd rs1 rs2 imm csr hi hrs1 v)
  have zx := besideS_size imm rs1 hi hrs1
  generalize besideS imm rs1 = sx at *
  generalize regS rd = sd at *
  generalize regS rs1 = s1 at *
  generalize regS rs2 = s2 at *
  have HW := Lib.hid (fun V => with2_c n sd sx hn (by omega) (by omega) V)
  clear hn zsd zs1 zs2 hrd hrs1 hrs2 hcsr hi zx
  have hbw := bal (Below.refl W.heap.size W) (.cells #[.int .i64 4, .int .i64 rd, .int .i64 rs1, .int .i64 rs2, .int .u32 imm, .int .i64 csr] 53)
  have HBW := Lib.hid hbw
  clear hbw
  go_enter Tryd.func22, Tryd.ntmps22
  go_wp2_with fail
  refine (HR.out _ HBW.out).mono ?_
  rintro e w1 ⟨rfl, hb1⟩
  have hc := (bcf hb1).1
  have HB1 := Lib.hid (bthen HBW.out hb1)
  have z1 : W.heap.size < w1.heap.size := by have := hb1.size; simp at this; omega
  have c0 := (hc W.heap.size 0 (by simp)).trans (show _ = some (.int .i64 4) by simp [go_sem])
  have c1 := (hc W.heap.size 1 (by simp)).trans (show _ = some (.int .i64 rd) by simp [go_sem])
  have c2 := (hc W.heap.size 2 (by simp)).trans (show _ = some (.int .i64 rs1) by simp [go_sem])
  have c3 := (hc W.heap.size 3 (by simp)).trans (show _ = some (.int .i64 rs2) by simp [go_sem])
  have c4 := (hc W.heap.size 4 (by simp)).trans (show _ = some (.int .u32 imm) by simp [go_sem])
  have c5 := (hc W.heap.size 5 (by simp)).trans (show _ = some (.int .i64 csr) by simp [go_sem])
  clear hb1 hc
  go_wp2_with fail
  refine (HN.out _ HB1.out).mono ?_
  rintro e w' ⟨rfl, rfl⟩
  go_wp2_with fail
  refine (HF.out _ HB1.out).mono ?_
  rintro e w' ⟨rfl, rfl⟩
  go_wp2
  refine wp_region_below (by kernel_rfl) (by kernel_rfl) ?_
  intro S _ F hF hS
  have d0 := fcell hF c0
  have d1 := fcell hF c1
  have d2 := fcell hF c2
  have d3 := fcell hF c3
  have d4 := fcell hF c4
  have d5 := fcell hF c5
  repeat (go_big_quiet_step (first | (go_at_call 19; exact qbelow hS (Grd.out _)) | (go_at_call 19; exact qbelow hS (Grs1.out _)) | (go_at_call 19; exact qbelow hS (Grs2.out _))))
  refine wpQuiet_nil ?_
  intro w3 hw3
  obtain ⟨s3', rfl⟩ := hw3
  have HB3 := Lib.hid (bthen HB1.out (hF s3'))
  have e0 := d0 s3'
  have e1 := d1 s3'
  have e2 := d2 s3'
  have e3 := d3 s3'
  have e4 := d4 s3'
  have e5 := d5 s3'
  clear c0 c1 c2 c3 c4 c5 d0 d1 d2 d3 d4 d5 hF hS z1
  generalize F s3' = w3 at *
  go_wp2_with (first | (go_at_call 50; with_reducible refine Calls.mono (GX.out _) ?_; rintro e w4 ⟨rfl, hb4⟩) | (go_at_call 47; refine (HW.out _).mono ?_; rintro e w6 ⟨rfl, ⟨nd, rfl⟩⟩) | fail)
  go_ret2
  exact ⟨rfl, by repeat (first | (with_reducible exact HB3.out) | (with_reducible refine bdn ?_ _) | (with_reducible refine bal ?_ _) | (with_reducible refine bthen ?_ hb5) | (with_reducible refine bthen ?_ hb4))⟩
set_option maxHeartbeats 8000000 in
set_option maxRecDepth 100000 in
theorem dtext_f3b (op rd rs1 rs2 imm csr : Int) (n : ByteArray) (hn : n.size ≤ 100) (h0 : ¬ op = 0) (h4 : ¬ op = 4) (HL : Hid (∀ v, Calls Tryd.prog 49 #[.int .i64 op] v fun e w' => e = .returned (.int .i64 0) ∧ Drawn0 v w')) (hrd : I64 rd) (hrs1 : I64 rs1) (hrs2 : I64 rs2) (hcsr : I64 csr) (hi : 0 ≤ imm ∧ imm ≤ 4294967295) (W : World)
    (HR : Hid (∀ v, Below W.heap.size W v → Calls Tryd.prog 44 #[.agg #[.int .i64 op, .int .i64 rd, .int .i64 rs1, .int .i64 rs2, .int .u32 imm, .int .i64 csr]] v fun e w' => e = .returned (.bool true) ∧ Below v.heap.size v w'))
    (HN : Hid (∀ v, Below W.heap.size W v → Calls Tryd.prog 45 #[.int .i64 op] v fun e w' => e = .returned (.tuple #[.string n, .int .i64 0]) ∧ v = w'))
    (HF : Hid (∀ v, Below W.heap.size W v → Calls Tryd.prog 46 #[.int .i64 op] v fun e w' => e = .returned (.tuple #[.int .i64 3, .int .i64 0]) ∧ v = w')) :
    Calls Tryd.prog 22 #[.agg #[.int .i64 op, .int .i64 rd, .int .i64 rs1, .int .i64 rs2, .int .u32 imm, .int .i64 csr]] W fun e w' => e = .returned (.tuple #[.string (with3 n (regS rd) (regS rs1) (numS (wrap32 imm))), .int .i64 0]) ∧ Below W.heap.size W w' := by
  have k0 := nb h0
  clear h0
  have k4 := nb h4
  clear h4
  have Grd := Lib.hid (fun v => register_c rd hrd v)
  have zsd := regS_size rd hrd
  have Grs1 := Lib.hid (fun v => register_c rs1 hrs1 v)
  have zs1 := regS_size rs1 hrs1
  have Grs2 := Lib.hid (fun v => register_c rs2 hrs2 v)
  have zs2 := regS_size rs2 hrs2
  have GX := Lib.hid (fun v => signed_c imm hi v)
  have zx := numS_size _ (w32_i64 imm hi)
  generalize numS (wrap32 imm) = sx at *
  generalize regS rd = sd at *
  generalize regS rs1 = s1 at *
  generalize regS rs2 = s2 at *
  have HW := Lib.hid (fun V => with3_c n sd s1 sx hn (by omega) (by omega) (by omega) V)
  clear hn zsd zs1 zs2 hrd hrs1 hrs2 hcsr hi zx
  have hbw := bal (Below.refl W.heap.size W) (.cells #[.int .i64 op, .int .i64 rd, .int .i64 rs1, .int .i64 rs2, .int .u32 imm, .int .i64 csr] 53)
  have HBW := Lib.hid hbw
  clear hbw
  go_enter Tryd.func22, Tryd.ntmps22
  go_wp2_with fail
  refine (HR.out _ HBW.out).mono ?_
  rintro e w1 ⟨rfl, hb1⟩
  have hc := (bcf hb1).1
  have HB1 := Lib.hid (bthen HBW.out hb1)
  have z1 : W.heap.size < w1.heap.size := by have := hb1.size; simp at this; omega
  have c0 := (hc W.heap.size 0 (by simp)).trans (show _ = some (.int .i64 op) by simp [go_sem])
  have c1 := (hc W.heap.size 1 (by simp)).trans (show _ = some (.int .i64 rd) by simp [go_sem])
  have c2 := (hc W.heap.size 2 (by simp)).trans (show _ = some (.int .i64 rs1) by simp [go_sem])
  have c3 := (hc W.heap.size 3 (by simp)).trans (show _ = some (.int .i64 rs2) by simp [go_sem])
  have c4 := (hc W.heap.size 4 (by simp)).trans (show _ = some (.int .u32 imm) by simp [go_sem])
  have c5 := (hc W.heap.size 5 (by simp)).trans (show _ = some (.int .i64 csr) by simp [go_sem])
  clear hb1 hc
  go_wp2_with fail
  refine (HN.out _ HB1.out).mono ?_
  rintro e w' ⟨rfl, rfl⟩
  go_wp2_with fail
  refine (HF.out _ HB1.out).mono ?_
  rintro e w' ⟨rfl, rfl⟩
  go_wp2
  refine wp_region_below (by kernel_rfl) (by kernel_rfl) ?_
  intro S _ F hF hS
  have d0 := fcell hF c0
  have d1 := fcell hF c1
  have d2 := fcell hF c2
  have d3 := fcell hF c3
  have d4 := fcell hF c4
  have d5 := fcell hF c5
  repeat (go_big_quiet_step (first | (go_at_call 19; exact qbelow hS (Grd.out _)) | (go_at_call 19; exact qbelow hS (Grs1.out _)) | (go_at_call 19; exact qbelow hS (Grs2.out _))))
  refine wpQuiet_nil ?_
  intro w3 hw3
  obtain ⟨s3', rfl⟩ := hw3
  have HB3 := Lib.hid (bthen HB1.out (hF s3'))
  have e0 := d0 s3'
  have e1 := d1 s3'
  have e2 := d2 s3'
  have e3 := d3 s3'
  have e4 := d4 s3'
  have e5 := d5 s3'
  clear c0 c1 c2 c3 c4 c5 d0 d1 d2 d3 d4 d5 hF hS z1
  generalize F s3' = w3 at *
  go_wp2_with (first | (go_at_call 48; with_reducible refine Calls.mono (GX.out _) ?_; rintro e w4 ⟨rfl, hb4⟩) | (go_at_call 47; refine (HW.out _).mono ?_; rintro e w6 ⟨rfl, ⟨nd, rfl⟩⟩) | (go_at_call 49; refine (HL.out _).mono ?_; rintro e w' ⟨rfl, ⟨ne, rfl⟩⟩) | fail)
  go_ret2
  exact ⟨rfl, by repeat (first | (with_reducible exact HB3.out) | (with_reducible refine bdn ?_ _) | (with_reducible refine bal ?_ _) | (with_reducible refine bthen ?_ hb5) | (with_reducible refine bthen ?_ hb4))⟩
set_option maxHeartbeats 8000000 in
set_option maxRecDepth 100000 in
theorem dtext_f3c (op rd rs1 rs2 imm csr : Int) (n : ByteArray) (hn : n.size ≤ 100) (h0 : ¬ op = 0) (h4 : ¬ op = 4) (l : Int) (hl : 0 < l) (HL : Hid (∀ v, Calls Tryd.prog 49 #[.int .i64 op] v fun e w' => e = .returned (.int .i64 l) ∧ Drawn0 v w')) (hrd : I64 rd) (hrs1 : I64 rs1) (hrs2 : I64 rs2) (hcsr : I64 csr) (hi : 0 ≤ imm ∧ imm ≤ 4294967295) (W : World)
    (HR : Hid (∀ v, Below W.heap.size W v → Calls Tryd.prog 44 #[.agg #[.int .i64 op, .int .i64 rd, .int .i64 rs1, .int .i64 rs2, .int .u32 imm, .int .i64 csr]] v fun e w' => e = .returned (.bool true) ∧ Below v.heap.size v w'))
    (HN : Hid (∀ v, Below W.heap.size W v → Calls Tryd.prog 45 #[.int .i64 op] v fun e w' => e = .returned (.tuple #[.string n, .int .i64 0]) ∧ v = w'))
    (HF : Hid (∀ v, Below W.heap.size W v → Calls Tryd.prog 46 #[.int .i64 op] v fun e w' => e = .returned (.tuple #[.int .i64 3, .int .i64 0]) ∧ v = w')) :
    Calls Tryd.prog 22 #[.agg #[.int .i64 op, .int .i64 rd, .int .i64 rs1, .int .i64 rs2, .int .u32 imm, .int .i64 csr]] W fun e w' => e = .returned (.tuple #[.string (with2 n (regS rd) (besideS imm rs1)), .int .i64 0]) ∧ Below W.heap.size W w' := by
  have k0 := nb h0
  clear h0
  have k4 := nb h4
  clear h4
  have Grd := Lib.hid (fun v => register_c rd hrd v)
  have zsd := regS_size rd hrd
  have Grs1 := Lib.hid (fun v => register_c rs1 hrs1 v)
  have zs1 := regS_size rs1 hrs1
  have Grs2 := Lib.hid (fun v => register_c rs2 hrs2 v)
  have zs2 := regS_size rs2 hrs2
  have GX := Lib.hid (fun v => beside_c op rd rs1 rs2 imm csr hi hrs1 v)
  have zx := besideS_size imm rs1 hi hrs1
  generalize besideS imm rs1 = sx at *
  generalize regS rd = sd at *
  generalize regS rs1 = s1 at *
  generalize regS rs2 = s2 at *
  have HW := Lib.hid (fun V => with2_c n sd sx hn (by omega) (by omega) V)
  clear hn zsd zs1 zs2 hrd hrs1 hrs2 hcsr hi zx
  have hbw := bal (Below.refl W.heap.size W) (.cells #[.int .i64 op, .int .i64 rd, .int .i64 rs1, .int .i64 rs2, .int .u32 imm, .int .i64 csr] 53)
  have HBW := Lib.hid hbw
  clear hbw
  go_enter Tryd.func22, Tryd.ntmps22
  go_wp2_with fail
  refine (HR.out _ HBW.out).mono ?_
  rintro e w1 ⟨rfl, hb1⟩
  have hc := (bcf hb1).1
  have HB1 := Lib.hid (bthen HBW.out hb1)
  have z1 : W.heap.size < w1.heap.size := by have := hb1.size; simp at this; omega
  have c0 := (hc W.heap.size 0 (by simp)).trans (show _ = some (.int .i64 op) by simp [go_sem])
  have c1 := (hc W.heap.size 1 (by simp)).trans (show _ = some (.int .i64 rd) by simp [go_sem])
  have c2 := (hc W.heap.size 2 (by simp)).trans (show _ = some (.int .i64 rs1) by simp [go_sem])
  have c3 := (hc W.heap.size 3 (by simp)).trans (show _ = some (.int .i64 rs2) by simp [go_sem])
  have c4 := (hc W.heap.size 4 (by simp)).trans (show _ = some (.int .u32 imm) by simp [go_sem])
  have c5 := (hc W.heap.size 5 (by simp)).trans (show _ = some (.int .i64 csr) by simp [go_sem])
  clear hb1 hc
  go_wp2_with fail
  refine (HN.out _ HB1.out).mono ?_
  rintro e w' ⟨rfl, rfl⟩
  go_wp2_with fail
  refine (HF.out _ HB1.out).mono ?_
  rintro e w' ⟨rfl, rfl⟩
  go_wp2
  refine wp_region_below (by kernel_rfl) (by kernel_rfl) ?_
  intro S _ F hF hS
  have d0 := fcell hF c0
  have d1 := fcell hF c1
  have d2 := fcell hF c2
  have d3 := fcell hF c3
  have d4 := fcell hF c4
  have d5 := fcell hF c5
  repeat (go_big_quiet_step (first | (go_at_call 19; exact qbelow hS (Grd.out _)) | (go_at_call 19; exact qbelow hS (Grs1.out _)) | (go_at_call 19; exact qbelow hS (Grs2.out _))))
  refine wpQuiet_nil ?_
  intro w3 hw3
  obtain ⟨s3', rfl⟩ := hw3
  have HB3 := Lib.hid (bthen HB1.out (hF s3'))
  have e0 := d0 s3'
  have e1 := d1 s3'
  have e2 := d2 s3'
  have e3 := d3 s3'
  have e4 := d4 s3'
  have e5 := d5 s3'
  clear c0 c1 c2 c3 c4 c5 d0 d1 d2 d3 d4 d5 hF hS z1
  generalize F s3' = w3 at *
  go_wp2_with (first | (go_at_call 50; with_reducible refine Calls.mono (GX.out _) ?_; rintro e w4 ⟨rfl, hb4⟩) | (go_at_call 47; refine (HW.out _).mono ?_; rintro e w6 ⟨rfl, ⟨nd, rfl⟩⟩) | (go_at_call 49; refine (HL.out _).mono ?_; rintro e w' ⟨rfl, ⟨ne, rfl⟩⟩) | fail)
  go_ret2
  exact ⟨rfl, by repeat (first | (with_reducible exact HB3.out) | (with_reducible refine bdn ?_ _) | (with_reducible refine bal ?_ _) | (with_reducible refine bthen ?_ hb5) | (with_reducible refine bthen ?_ hb4))⟩
end Go.Proofs.YtnooikjkjcflbadDoor
