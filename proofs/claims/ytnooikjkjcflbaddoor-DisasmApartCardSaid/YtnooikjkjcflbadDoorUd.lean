/- Contracts of disasm's beside, and of with at two and at three parts. Conditions: numbers are of their kinds; texts are short. -/
import Derived.Test.YtnooikjkjcflbadDoorUc
import Derived.Test.YtnooikjkjcflbadDoorFx
namespace Go.Proofs.YtnooikjkjcflbadDoor
open Go.RowKit Go.Proofs.YtnooikjkjcflbadDoorW.PrintWords Go.Proofs.YtnooikjkjcflbadDoorW.PrintLast Go.Proofs.YtnooikjkjcflbadDoorW.PrintMore Go.Proofs.YtnooikjkjcflbadDoor.PDisasmWords
set_option linter.unusedVariables false
set_option linter.unusedSimpArgs false

theorem C_strs (W : World) (e : Nat) (ys : List ByteArray) (h : ys.length ≤ 9223372036854775807) : Kd.string.C (W.alloc (.cells (ys.map Value.string).toArray e)) (some ⟨W.heap.size, 0, none⟩) ys.length ys :=
  ⟨rfl, h, fun _ => ⟨_, rfl, fun j p hj => ⟨[.string p], rfl, rfl, fun i u hu => by
    cases i with
    | zero =>
      simp only [List.getElem?_cons_zero, Option.some.injEq] at hu
      subst hu
      rw [add_plain, show j * Kd.string.sz + 0 = j from Nat.mul_one j]
      simp [go_sem, hj]
    | succ i => simp at hu⟩⟩⟩
theorem with2_c (n a b : ByteArray) (hn : n.size ≤ 100) (ha : a.size ≤ 100) (hb : b.size ≤ 100) (W : World) :
    Calls Tryd.prog 47 #[.string n, .slice (some ⟨W.heap.size, 0, none⟩) 2 2] (W.alloc (.cells #[.string a, .string b] 9)) fun e w' => e = .returned (.string (with2 n a b)) ∧ Drawn0 (W.alloc (.cells #[.string a, .string b] 9)) w' :=
  disasm_with.calls 9 n _ 2 [a, b] _ _ (C_strs W 9 [a, b] (by simp)) (by simp) (with2_f n a b hn ha hb)
theorem with3_c (n a b c : ByteArray) (hn : n.size ≤ 100) (ha : a.size ≤ 100) (hb : b.size ≤ 100) (hc : c.size ≤ 100) (W : World) :
    Calls Tryd.prog 47 #[.string n, .slice (some ⟨W.heap.size, 0, none⟩) 3 3] (W.alloc (.cells #[.string a, .string b, .string c] 9)) fun e w' => e = .returned (.string (with3 n a b c)) ∧ Drawn0 (W.alloc (.cells #[.string a, .string b, .string c] 9)) w' :=
  disasm_with.calls 9 n _ 3 [a, b, c] _ _ (C_strs W 9 [a, b, c] (by simp)) (by simp) (with3_f n a b c hn ha hb hc)
theorem with3_at (n a b c : ByteArray) (hn : n.size ≤ 100) (ha : a.size ≤ 100) (hb : b.size ≤ 100) (hc : c.size ≤ 100) (g : Nat) (V : World) (h : cellsAt V g [(0, .string a), (1, .string b), (2, .string c)]) :
    Calls Tryd.prog 47 #[.string n, .slice (some ⟨g, 0, none⟩) 3 3] V fun e w' => e = .returned (.string (with3 n a b c)) ∧ Drawn0 V w' := by
  obtain ⟨h0, h1, h2, _⟩ := h
  refine disasm_with.calls 9 n _ 3 [a, b, c] _ _ ⟨rfl, by simp, fun _ => ⟨_, rfl, fun j p hj => ⟨[.string p], rfl, rfl, fun i u hu => ?_⟩⟩⟩ (by simp) (with3_f n a b c hn ha hb hc)
  cases i with
  | succ i => simp at hu
  | zero =>
    simp only [List.getElem?_cons_zero, Option.some.injEq] at hu
    subst hu
    rw [add_plain, show j * Kd.string.sz + 0 = j from Nat.mul_one j]
    match j, hj with
    | 0, hj => simp at hj; subst hj; exact h0
    | 1, hj => simp at hj; subst hj; exact h1
    | 2, hj => simp at hj; subst hj; exact h2
def besideS (imm rs1 : Int) : ByteArray := ((numS (wrap32 imm) ++ op1) ++ regS rs1) ++ cl1
theorem besideS_size (imm rs1 : Int) (hi : 0 ≤ imm ∧ imm ≤ 4294967295) (h1 : I64 rs1) : (besideS imm rs1).size ≤ 100 := by
  have a := numS_size _ (w32_i64 imm hi)
  have b := regS_size rs1 h1
  unfold besideS
  rw [ByteArray.size_append, ByteArray.size_append, ByteArray.size_append]
  show (numS (wrap32 imm)).size + 1 + (regS rs1).size + 1 ≤ 100
  omega
set_option maxHeartbeats 4000000 in
theorem beside_c (op rd rs1 rs2 imm csr : Int) (hi : 0 ≤ imm ∧ imm ≤ 4294967295) (h1 : I64 rs1) (w : World) :
    Calls Tryd.prog 50 #[.agg #[.int .i64 op, .int .i64 rd, .int .i64 rs1, .int .i64 rs2, .int .u32 imm, .int .i64 csr]] w fun e w' => e = .returned (.string (besideS imm rs1)) ∧ Below w.heap.size w w' := by
  have HS := Lib.hid (fun v => signed_c imm hi v)
  have HG := Lib.hid (fun v => register_c rs1 h1 v)
  have a := numS_size _ (w32_i64 imm hi)
  have b := regS_size rs1 h1
  unfold besideS op1 cl1
  generalize numS (wrap32 imm) = x at *
  generalize regS rs1 = y at *
  have s1 : x.size + 1 ≤ 9223372036854775807 := by omega
  have s2 : (x ++ (⟨#[40]⟩ : ByteArray)).size + y.size ≤ 9223372036854775807 := by
    rw [ByteArray.size_append]
    show x.size + 1 + y.size ≤ 9223372036854775807
    omega
  have s3 : ((x ++ (⟨#[40]⟩ : ByteArray)) ++ y).size + 1 ≤ 9223372036854775807 := by
    rw [ByteArray.size_append, ByteArray.size_append]
    show x.size + 1 + y.size + 1 ≤ 9223372036854775807
    omega
  have s4 : x.size + 1 + y.size + 1 ≤ 9223372036854775807 := by omega
  have s5 : x.size + 1 + y.size ≤ 9223372036854775807 := by omega
  have s6 : x.size + (⟨#[40]⟩ : ByteArray).size + y.size + 1 ≤ 9223372036854775807 := s4
  have s7 : ((x ++ (⟨#[40]⟩ : ByteArray)).size + y.size) + 1 ≤ 9223372036854775807 := by rw [ByteArray.size_append]; exact s4
  have s8 : ((x ++ (⟨#[40]⟩ : ByteArray)) ++ y).size + (⟨#[41]⟩ : ByteArray).size ≤ 9223372036854775807 := s3
  clear hi h1 a b
  have hbw := bal (Below.refl w.heap.size w) (.cells #[.int .i64 op, .int .i64 rd, .int .i64 rs1, .int .i64 rs2, .int .u32 imm, .int .i64 csr] 53)
  have HBW := Lib.hid hbw
  clear hbw
  go_enter Tryd.func50, Tryd.ntmps50
  go_wp2
  refine wp_region_below (by kernel_rfl) (by kernel_rfl) ?_
  intro S _ F hF hS
  have c2 := fcell hF (b := w.heap.size) (o := 2) (v := .int .i64 rs1) (by simp [go_sem])
  have c4 := fcell hF (b := w.heap.size) (o := 4) (v := .int .u32 imm) (by simp [go_sem])
  repeat (go_big_quiet_step (first | (go_at_call 48; exact qbelow hS (HS.out _)) | (go_at_call 19; exact qbelow hS (HG.out _))))
  refine wpQuiet_nil ?_
  intro w3 hw3
  obtain ⟨s3', rfl⟩ := hw3
  have hb3 := bthen HBW.out (hF s3')
  clear c2 c4 hF hS
  generalize F s3' = w3 at *
  go_wp2
  go_ret
  exact ⟨rfl, hb3⟩
end Go.Proofs.YtnooikjkjcflbadDoor
