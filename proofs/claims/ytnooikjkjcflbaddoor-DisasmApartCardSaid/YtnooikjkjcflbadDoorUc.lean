/- Contracts of disasm's Number, Register, signed, beside and with, and of the reference's Number, Register, Signed. Conditions: numbers are of their kinds; texts are short. -/
import Derived.Test.YtnooikjkjcflbadDoorUb
import Derived.Test.YtnooikjkjcflbadDoorIn0
import Derived.Test.YtnooikjkjcflbadDoorRg
import Derived.Test.YtnooikjkjcflbadDoorIr3
namespace Go.Proofs.YtnooikjkjcflbadDoor
open Go.RowKit Go.Proofs.YtnooikjkjcflbadDoorW.PrintWords Go.Proofs.YtnooikjkjcflbadDoorW.PrintLast Go.Proofs.YtnooikjkjcflbadDoorW.PrintMore Go.Proofs.YtnooikjkjcflbadDoor.PDisasmWords
set_option linter.unusedVariables false
set_option linter.unusedSimpArgs false

def I64 (n : Int) : Prop := -9223372036854775808 ≤ n ∧ n ≤ 9223372036854775807
theorem number_c (n : Int) (h : I64 n) (w : World) : Calls Tryd.prog 17 #[.int .i64 n] w fun e w' => e = .returned (.string (numS n)) ∧ Below w.heap.size w w' := disasm_Number.calls 400 n _ w (number_f n h)
theorem register_c (n : Int) (h : I64 n) (w : World) : Calls Tryd.prog 19 #[.int .i64 n] w fun e w' => e = .returned (.string (regS n)) ∧ Below w.heap.size w w' := disasm_Register.calls 400 n _ w (register_f n h)
theorem rnumber_c (n : Int) (h : I64 n) (w : World) : Calls Tryd.prog 18 #[.int .i64 n] w fun e w' => e = .returned (.string (numS n)) ∧ Drawn0 w w' := mimesisref05_Number.calls 30 n _ w (rnumber_f n h)
theorem rregister_c (n : Int) (h : I64 n) (w : World) : Calls Tryd.prog 20 #[.int .i64 n] w fun e w' => e = .returned (.string (regS n)) ∧ Drawn0 w w' := mimesisref05_Register.calls 30 n _ w (rregister_f n h)
theorem w32_rng (x : Int) (h : 0 ≤ x ∧ x ≤ 4294967295) : -2147483648 ≤ wrap32 x ∧ wrap32 x ≤ 2147483647 := by unfold wrap32; omega
theorem w32_i64 (x : Int) (h : 0 ≤ x ∧ x ≤ 4294967295) : I64 (wrap32 x) := by
  have := w32_rng x h
  exact ⟨by omega, by omega⟩
theorem w32_64 (x : Int) (h : 0 ≤ x ∧ x ≤ 4294967295) : wrap64 (wrap32 x) = wrap32 x := by
  have := w32_rng x h
  generalize wrap32 x = y at *
  unfold wrap64; omega
theorem signed_f (x : Int) (h : 0 ≤ x ∧ x ≤ 4294967295) : disasm_signed.f 400 x = some (numS (wrap32 x)) := by
  unfold disasm_signed.f word_Signed.f
  rw [Option.bind_some, w32_64 x h, number_f _ (w32_i64 x h), Option.bind_some]
theorem signed_c (x : Int) (h : 0 ≤ x ∧ x ≤ 4294967295) (w : World) : Calls Tryd.prog 48 #[.int .u32 x] w fun e w' => e = .returned (.string (numS (wrap32 x))) ∧ Below w.heap.size w w' := disasm_signed.calls 400 x _ w (signed_f x h)
theorem rsigned_f (x : Int) (h : 0 ≤ x ∧ x ≤ 4294967295) : mimesisref01_Signed.f x = some (wrap32 x) := by
  unfold mimesisref01_Signed.f
  have e : wrap64 x = x := by unfold wrap64; omega
  by_cases hx : x ≥ 2147483648
  · rw [if_pos hx, e]
    congr 1
    unfold wrap64 wrap32
    omega
  · rw [if_neg hx, e]
    congr 1
    unfold wrap32
    omega
theorem rsigned_c (x : Int) (h : 0 ≤ x ∧ x ≤ 4294967295) (w : World) : Calls Tryd.prog 53 #[.int .u32 x] w fun e w' => e = .returned (.int .i64 (wrap32 x)) ∧ Drawn0 w w' := mimesisref01_Signed.calls x _ w (rsigned_f x h)
def sp : ByteArray := ⟨#[32]⟩
def cm : ByteArray := ⟨#[44]⟩
def op1 : ByteArray := ⟨#[40]⟩
def cl1 : ByteArray := ⟨#[41]⟩
def with2 (n a b : ByteArray) : ByteArray := ((n ++ (sp ++ a)) ++ cm) ++ (sp ++ b)
def with3 (n a b c : ByteArray) : ByteArray := ((((n ++ (sp ++ a)) ++ cm) ++ (sp ++ b)) ++ cm) ++ (sp ++ c)
theorem with_step0 (k : Nat) (n : ByteArray) (l : List ByteArray) (p : ByteArray) (h : rdOf ByteArray.empty l 0 = p) (hl : 0 < l.length) (hn : n.size ≤ 1000) (hp : p.size ≤ 1000) :
    disasm_with.l0 (k + 1) n l (l.length : Int) 0 = disasm_with.l0 k (n ++ (sp ++ p)) l (l.length : Int) 1 := by
  have hs : (sp ++ p).size = 1 + p.size := ByteArray.size_append
  have hz : sp.size = 1 := rfl
  have HZ : Hid (1 + p.size ≤ 9223372036854775807) := Lib.hid (by omega)
  have HY : Hid (n.size + (sp ++ p).size ≤ 9223372036854775807) := Lib.hid (by omega)
  clear hs
  rw [disasm_with.l0, h, if_pos (by omega), if_pos (by omega), if_pos (by omega), if_neg (by omega), if_pos HZ.out]
  rw [show (⟨#[32]⟩ : ByteArray) = sp from rfl, if_pos HY.out, show wrap64 (0 + 1) = 1 by unfold wrap64; omega]
theorem with_step (k i : Nat) (n : ByteArray) (l : List ByteArray) (p : ByteArray) (h : rdOf ByteArray.empty l (i : Int) = p) (hi : 0 < i) (hl : i < l.length) (hl2 : l.length ≤ 100) (hn : n.size ≤ 1000) (hp : p.size ≤ 1000) :
    disasm_with.l0 (k + 1) n l (l.length : Int) (i : Int) = disasm_with.l0 k ((n ++ cm) ++ (sp ++ p)) l (l.length : Int) ((i + 1 : Nat) : Int) := by
  have hs : (sp ++ p).size = 1 + p.size := ByteArray.size_append
  have ht : (n ++ cm).size = n.size + 1 := ByteArray.size_append
  have HX : Hid (n.size + 1 ≤ 9223372036854775807) := Lib.hid (by omega)
  have HZ : Hid (1 + p.size ≤ 9223372036854775807) := Lib.hid (by omega)
  have HY : Hid ((n ++ cm).size + (sp ++ p).size ≤ 9223372036854775807) := Lib.hid (by omega)
  have HW : Hid (wrap64 ((i : Int) + 1) = ((i + 1 : Nat) : Int)) := Lib.hid (ee4 i (by omega))
  clear hs ht
  rw [disasm_with.l0, h, if_pos (by omega), if_pos (by omega), if_pos (by omega), if_pos (by omega), if_pos HX.out, if_pos HZ.out]
  rw [show (⟨#[32]⟩ : ByteArray) = sp from rfl, show (⟨#[44]⟩ : ByteArray) = cm from rfl, if_pos HY.out, HW.out]
theorem with_end (k : Nat) (n : ByteArray) (l : List ByteArray) : disasm_with.l0 (k + 1) n l (l.length : Int) (l.length : Int) = some n := by
  rw [disasm_with.l0, if_neg (by omega)]
theorem with2_f (n a b : ByteArray) (hn : n.size ≤ 100) (ha : a.size ≤ 100) (hb : b.size ≤ 100) : disasm_with.f 9 n [a, b] = some (with2 n a b) := by
  have h1 : (n ++ (sp ++ a)).size ≤ 1000 := by
    rw [ByteArray.size_append, ByteArray.size_append]
    show n.size + (1 + a.size) ≤ 1000
    omega
  have e : disasm_with.f 9 n [a, b] = disasm_with.l0 (8 + 1) n [a, b] (([a, b] : List ByteArray).length : Int) 0 := rfl
  rw [e, with_step0 8 n [a, b] a rfl (by simp) (by omega) (by omega), show (8 : Nat) = 7 + 1 from rfl, show (1 : Int) = ((1 : Nat) : Int) from rfl, with_step 7 1 _ [a, b] b rfl (by omega) (by simp) (by simp) h1 (by omega)]
  exact with_end 6 _ [a, b]
theorem with3_f (n a b c : ByteArray) (hn : n.size ≤ 100) (ha : a.size ≤ 100) (hb : b.size ≤ 100) (hc : c.size ≤ 100) : disasm_with.f 9 n [a, b, c] = some (with3 n a b c) := by
  have h1 : (n ++ (sp ++ a)).size ≤ 300 := by
    rw [ByteArray.size_append, ByteArray.size_append]
    show n.size + (1 + a.size) ≤ 300
    omega
  have h2 : (((n ++ (sp ++ a)) ++ cm) ++ (sp ++ b)).size ≤ 1000 := by
    rw [ByteArray.size_append, ByteArray.size_append (b := cm), ByteArray.size_append (a := sp)]
    show _ + 1 + (1 + b.size) ≤ 1000
    omega
  have e : disasm_with.f 9 n [a, b, c] = disasm_with.l0 (8 + 1) n [a, b, c] (([a, b, c] : List ByteArray).length : Int) 0 := rfl
  rw [e, with_step0 8 n [a, b, c] a rfl (by simp) (by omega) (by omega), show (8 : Nat) = 7 + 1 from rfl, show (1 : Int) = ((1 : Nat) : Int) from rfl, with_step 7 1 _ [a, b, c] b rfl (by omega) (by simp) (by simp) (by omega) (by omega),
    show (7 : Nat) = 6 + 1 from rfl, with_step 6 2 _ [a, b, c] c rfl (by omega) (by simp) (by simp) h2 (by omega)]
  exact with_end 5 _ [a, b, c]
end Go.Proofs.YtnooikjkjcflbadDoor
