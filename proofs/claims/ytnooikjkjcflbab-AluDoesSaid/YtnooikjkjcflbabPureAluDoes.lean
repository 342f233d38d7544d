/- Proved: the pure statement of the law AluDoes: what any instruction reckons of any words is what the reference reckons, or nothing. Conditions: the numbers are of their kinds. -/
import Derived.Test.YtnooikjkjcflbabPAluDoesx2
import Derived.Test.YtnooikjkjcflbabBt
namespace Go.Proofs.Ytnooikjkjcflbab.Pure
open Go.RowKit Go.Proofs.Ytnooikjkjcflbab.PAluDoes Go.Proofs.YtnooikjkjcflbabW.PrintWords Go.Proofs.YtnooikjkjcflbabW.PrintLast Go.Proofs.YtnooikjkjcflbabW.PrintMore

theorem u32_of_wf {x : Int} (h : (Lit.int .u32 x).wf = true) : 0 ≤ x ∧ x ≤ 4294967295 := by
  have h0 : IntKind.u32.min = 0 := rfl
  have h1 : IntKind.u32.max = 4294967295 := rfl
  simp only [Lit.wf, Bool.and_eq_true, decide_eq_true_eq] at h
  omega
theorem awake_eq : mimesislaw07_awake.f = some true := by decide +kernel
theorem sgn_eq (a : Int) (h : 0 ≤ a ∧ a ≤ 4294967295) : mimesisref01_Signed.f a = some (wrap32 a) := by
  unfold mimesisref01_Signed.f
  split <;> simp only [Option.some.injEq] <;> unfold wrap64 wrap32 <;> omega
theorem pow_le32 (n : Nat) (h : n ≤ 32) : 2 ^ n ≤ 4294967296 := Nat.pow_le_pow_right (by decide) h
theorem power_l (n : Nat) (hn : n ≤ 32) (d : Nat) : ∀ (k i : Nat), i ≤ n → n - i = d → d < k → mimesisref01_Power.l0 k n ((2 ^ i : Nat) : Int) (i : Int) = some ((2 ^ n : Nat) : Int) := by
  induction d with
  | zero =>
    intro k i h1 h2 h3
    obtain ⟨k, rfl⟩ : ∃ m, k = m + 1 := ⟨k - 1, by omega⟩
    obtain rfl : i = n := by omega
    simp only [mimesisref01_Power.l0]
    rw [if_neg (by omega)]
  | succ d ih =>
    intro k i h1 h2 h3
    obtain ⟨k, rfl⟩ : ∃ m, k = m + 1 := ⟨k - 1, by omega⟩
    simp only [mimesisref01_Power.l0]
    rw [if_pos (by omega)]
    have hp := pow_le32 (i + 1) (by omega)
    have e1 : IntKind.u64.wrap (((2 ^ i : Nat) : Int) * 2) = ((2 ^ (i + 1) : Nat) : Int) := by
      rw [IntKind.wrap_u64, Nat.pow_succ] at *
      omega
    have e2 : wrap64 ((i : Int) + 1) = ((i + 1 : Nat) : Int) := by unfold wrap64; omega
    rw [e1, e2]
    exact ih k (i + 1) (by omega) (by omega) (by omega)
theorem power_eq (n k : Nat) (hn : n ≤ 32) (hk : n < k) : mimesisref01_Power.f k n = some ((2 ^ n : Nat) : Int) := by
  have := power_l n hn n k 0 (by omega) (by omega) hk
  simpa [mimesisref01_Power.f] using this
theorem bit_eq (a i k : Nat) (ha : a < 4294967296) (hi : i < 32) (hk : 33 < k) : mimesisref01_Bits.f k a i 1 = some ((a / 2 ^ i % 2 : Nat) : Int) := by
  have hp := pow_le32 i (by omega)
  have h0 : 0 < 2 ^ i := Nat.pow_pos (by decide)
  unfold mimesisref01_Bits.f
  rw [power_eq i k (by omega) (by omega)]
  have e1 : mimesisref01_Power.f k 1 = some 2 := by
    have := power_eq 1 k (by omega) (by omega)
    simpa using this
  rw [e1]
  simp only [Option.bind_some]
  rw [if_neg (by omega), if_neg (by decide)]
  have e2 : IntKind.u64.wrap (a : Int) = a := by rw [IntKind.wrap_u64]; omega
  have h3 : a / 2 ^ i < 4294967296 := Nat.lt_of_le_of_lt (Nat.div_le_self _ _) ha
  rw [e2, Int.tdiv_eq_ediv_of_nonneg (by omega), ← Int.natCast_ediv]
  generalize a / 2 ^ i = q at *
  have e4 : IntKind.u64.wrap (q : Int) = (q : Int) := by rw [IntKind.wrap_u64]; omega
  rw [e4, Int.tmod_eq_emod_of_nonneg (by omega)]
  congr 1
  omega
/-- The loop over the bits, for a word x whose bit i is what the list says of the bits of a and b. -/
theorem bits_l (a b x : Nat) (l : List Int) (ha : a < 4294967296) (hb : b < 4294967296) (hx : x < 4294967296) (hl : l.length = 3)
    (hbit : ∀ i, i < 32 → rd l (((a / 2 ^ i % 2 + b / 2 ^ i % 2 : Nat)) : Int) = ((x / 2 ^ i % 2 : Nat) : Int)) (d : Nat) :
    ∀ (k i : Nat), i ≤ 32 → 32 - i = d → d + 40 < k → mimesisref07_bits.l0 k a b l ((x % 2 ^ i : Nat) : Int) (i : Int) = some (x : Int) := by
  induction d with
  | zero =>
    intro k i h1 h2 h3
    obtain ⟨k, rfl⟩ : ∃ m, k = m + 1 := ⟨k - 1, by omega⟩
    obtain rfl : i = 32 := by omega
    simp only [mimesisref07_bits.l0]
    rw [if_neg (by omega)]
    congr 1
    omega
  | succ d ih =>
    intro k i h1 h2 h3
    obtain ⟨k, rfl⟩ : ∃ m, k = m + 1 := ⟨k - 1, by omega⟩
    have hp := pow_le32 i (by omega)
    have h0 : 0 < 2 ^ i := Nat.pow_pos (by decide)
    have hi : i < 32 := by omega
    simp only [mimesisref07_bits.l0]
    rw [if_pos (by omega), bit_eq a i k ha hi (by omega), bit_eq b i k hb hi (by omega)]
    simp only [Option.bind_some]
    have e0 : (((a / 2 ^ i % 2 : Nat) : Int) + ((b / 2 ^ i % 2 : Nat) : Int)) % 4294967296 = ((a / 2 ^ i % 2 + b / 2 ^ i % 2 : Nat) : Int) := by omega
    rw [e0, if_pos (by omega), if_pos (by omega), power_eq i k (by omega) (by omega)]
    simp only [Option.bind_some]
    rw [hbit i hi]
    have hm : x % 2 ^ (i + 1) = x % 2 ^ i + 2 ^ i * (x / 2 ^ i % 2) := by
      rw [Nat.pow_succ, Nat.mod_mul]
    have hlt : x % 2 ^ i < 2 ^ i := Nat.mod_lt _ h0
    have hv2 : x / 2 ^ i % 2 < 2 := Nat.mod_lt _ (by decide)
    have e5 : IntKind.u64.wrap (((x % 2 ^ i : Nat) : Int) + IntKind.u64.wrap (((x / 2 ^ i % 2 : Nat) : Int) * ((2 ^ i : Nat) : Int))) = ((x % 2 ^ (i + 1) : Nat) : Int) := by
      rw [hm]
      generalize x % 2 ^ i = y at *
      generalize 2 ^ i = z at *
      generalize x / z % 2 = v at *
      have hv : v = 0 ∨ v = 1 := by omega
      rcases hv with rfl | rfl <;> simp only [IntKind.wrap_u64] <;> omega
    have e2 : wrap64 ((i : Int) + 1) = ((i + 1 : Nat) : Int) := by unfold wrap64; omega
    rw [e5, e2]
    clear e5 e2 hm hlt hv2 e0 h0 hp hbit
    exact ih k (i + 1) hi (by omega) (by omega)
theorem bits_f (k : Nat) (hk : 72 < k) (a b x : Nat) (l : List Int) (ha : a < 4294967296) (hb : b < 4294967296) (hx : x < 4294967296) (hl : l.length = 3)
    (hbit : ∀ i, i < 32 → rd l (((a / 2 ^ i % 2 + b / 2 ^ i % 2 : Nat)) : Int) = ((x / 2 ^ i % 2 : Nat) : Int)) : mimesisref07_bits.f k a b l = some (x : Int) := by
  have := bits_l a b x l ha hb hx hl hbit 32 k 0 (by omega) (by omega) (by omega)
  have e : ((x % 2 ^ 0 : Nat) : Int) = 0 := by rw [Nat.pow_zero, Nat.mod_one]; rfl
  rw [e] at this
  exact this
theorem bit_and (a b i : Nat) : (a &&& b) / 2 ^ i % 2 = if a / 2 ^ i % 2 + b / 2 ^ i % 2 = 2 then 1 else 0 := by
  have h := Nat.testBit_and a b i
  rw [Nat.testBit_eq_decide_div_mod_eq, Nat.testBit_eq_decide_div_mod_eq, Nat.testBit_eq_decide_div_mod_eq] at h
  rcases Nat.mod_two_eq_zero_or_one (a / 2 ^ i) with ha | ha <;> rcases Nat.mod_two_eq_zero_or_one (b / 2 ^ i) with hb | hb <;> rcases Nat.mod_two_eq_zero_or_one ((a &&& b) / 2 ^ i) with hc | hc <;> simp [ha, hb, hc] at h ⊢
theorem bit_or (a b i : Nat) : (a ||| b) / 2 ^ i % 2 = if a / 2 ^ i % 2 + b / 2 ^ i % 2 = 0 then 0 else 1 := by
  have h := Nat.testBit_or a b i
  rw [Nat.testBit_eq_decide_div_mod_eq, Nat.testBit_eq_decide_div_mod_eq, Nat.testBit_eq_decide_div_mod_eq] at h
  rcases Nat.mod_two_eq_zero_or_one (a / 2 ^ i) with ha | ha <;> rcases Nat.mod_two_eq_zero_or_one (b / 2 ^ i) with hb | hb <;> rcases Nat.mod_two_eq_zero_or_one ((a ||| b) / 2 ^ i) with hc | hc <;> simp [ha, hb, hc] at h ⊢
theorem bit_xor (a b i : Nat) : (a ^^^ b) / 2 ^ i % 2 = if a / 2 ^ i % 2 + b / 2 ^ i % 2 = 1 then 1 else 0 := by
  have h := Nat.testBit_xor a b i
  rw [Nat.testBit_eq_decide_div_mod_eq, Nat.testBit_eq_decide_div_mod_eq, Nat.testBit_eq_decide_div_mod_eq] at h
  rcases Nat.mod_two_eq_zero_or_one (a / 2 ^ i) with ha | ha <;> rcases Nat.mod_two_eq_zero_or_one (b / 2 ^ i) with hb | hb <;> rcases Nat.mod_two_eq_zero_or_one ((a ^^^ b) / 2 ^ i) with hc | hc <;> simp [ha, hb, hc] at h ⊢
theorem and_f (k : Nat) (hk : 72 < k) (a b : Int) (ha : 0 ≤ a ∧ a ≤ 4294967295) (hb : 0 ≤ b ∧ b ≤ 4294967295) : mimesisref07_bits.f k a b [0, 0, 1] = some (Go.bits .and .u32 a b) := by
  obtain ⟨a, rfl⟩ := Int.eq_ofNat_of_zero_le ha.1
  obtain ⟨b, rfl⟩ := Int.eq_ofNat_of_zero_le hb.1
  have hx : a &&& b < 2 ^ 32 := Nat.and_lt_two_pow a (by omega)
  rw [Bt.and_nat a b (by omega) (by omega)]
  refine bits_f k hk a b _ _ (by omega) (by omega) hx rfl fun i _ => ?_
  rw [bit_and]
  rcases Nat.mod_two_eq_zero_or_one (a / 2 ^ i) with h | h <;> rcases Nat.mod_two_eq_zero_or_one (b / 2 ^ i) with h' | h' <;> rw [h, h'] <;> rfl
theorem or_f (k : Nat) (hk : 72 < k) (a b : Int) (ha : 0 ≤ a ∧ a ≤ 4294967295) (hb : 0 ≤ b ∧ b ≤ 4294967295) : mimesisref07_bits.f k a b [0, 1, 1] = some (Go.bits .or .u32 a b) := by
  obtain ⟨a, rfl⟩ := Int.eq_ofNat_of_zero_le ha.1
  obtain ⟨b, rfl⟩ := Int.eq_ofNat_of_zero_le hb.1
  have hx : a ||| b < 2 ^ 32 := Nat.or_lt_two_pow (by omega) (by omega)
  rw [Bt.or_nat a b (by omega) (by omega)]
  refine bits_f k hk a b _ _ (by omega) (by omega) hx rfl fun i _ => ?_
  rw [bit_or]
  rcases Nat.mod_two_eq_zero_or_one (a / 2 ^ i) with h | h <;> rcases Nat.mod_two_eq_zero_or_one (b / 2 ^ i) with h' | h' <;> rw [h, h'] <;> rfl
theorem xor_f (k : Nat) (hk : 72 < k) (a b : Int) (ha : 0 ≤ a ∧ a ≤ 4294967295) (hb : 0 ≤ b ∧ b ≤ 4294967295) : mimesisref07_bits.f k a b [0, 1, 0] = some (Go.bits .xor .u32 a b) := by
  obtain ⟨a, rfl⟩ := Int.eq_ofNat_of_zero_le ha.1
  obtain ⟨b, rfl⟩ := Int.eq_ofNat_of_zero_le hb.1
  have hx : a ^^^ b < 2 ^ 32 := Nat.xor_lt_two_pow (by omega) (by omega)
  rw [Bt.xor_nat a b (by omega) (by omega)]
  refine bits_f k hk a b _ _ (by omega) (by omega) hx rfl fun i _ => ?_
  rw [bit_xor]
  rcases Nat.mod_two_eq_zero_or_one (a / 2 ^ i) with h | h <;> rcases Nat.mod_two_eq_zero_or_one (b / 2 ^ i) with h' | h' <;> rw [h, h'] <;> rfl
theorem word_eq (n : Int) : mimesisref01_Word.f n = some (n % 4294967296) := by
  unfold mimesisref01_Word.f
  rw [IntKind.wrap_u64, Int.tmod_eq_emod_of_nonneg (by omega)]
  congr 1
  omega
theorem xor_top (a : Int) (ha : 0 ≤ a ∧ a ≤ 4294967295) : Go.bits .xor .u32 a 2147483648 = (a + 2147483648) % 4294967296 := by
  obtain ⟨a, rfl⟩ := Int.eq_ofNat_of_zero_le ha.1
  have h := Bt.xor_nat a 2147483648 (by omega) (by omega)
  have h1 := Bt.and_add_or a 2147483648
  have h2 : a ^^^ 2147483648 = (a ||| 2147483648) - (a &&& 2147483648) := by
    have h3 := Bt.and_add_or (a ^^^ 2147483648) (a &&& 2147483648)
    have h4 : (a ^^^ 2147483648) &&& (a &&& 2147483648) = 0 := by
      apply Nat.eq_of_testBit_eq; intro i
      rw [Nat.testBit_and, Nat.testBit_xor, Nat.testBit_and, Nat.zero_testBit]
      cases a.testBit i <;> cases (2147483648 : Nat).testBit i <;> rfl
    have h5 : (a ^^^ 2147483648) ||| (a &&& 2147483648) = a ||| 2147483648 := by
      apply Nat.eq_of_testBit_eq; intro i
      rw [Nat.testBit_or, Nat.testBit_xor, Nat.testBit_and, Nat.testBit_or]
      cases a.testBit i <;> cases (2147483648 : Nat).testBit i <;> rfl
    omega
  have h6 : a &&& 2147483648 = if a < 2147483648 then 0 else 2147483648 := by
    have h7 : (a &&& 2147483648) / 2147483648 = a / 2147483648 &&& 1 := Nat.and_div_two_pow (a := a) (b := 2147483648) (n := 31)
    have h8 : (a &&& 2147483648) % 2147483648 = a % 2147483648 &&& 0 := Nat.and_mod_two_pow (a := a) (b := 2147483648) (n := 31)
    rw [Nat.and_zero] at h8
    split
    · rw [show a / 2147483648 = 0 by omega, Nat.zero_and] at h7; omega
    · rw [show a / 2147483648 = 1 by omega, show (1 : Nat) &&& 1 = 1 from rfl] at h7; omega
  rw [show (2147483648 : Int) = ((2147483648 : Nat) : Int) from rfl, h, h2]
  split at h6 <;> omega
def plainP (op : Int) : Int := if op = 19 then 28 else if op = 20 then 31 else if op = 21 then 32 else if op = 22 then 33 else if op = 23 then 36 else if op = 24 then 37 else if op = 25 then 30 else if op = 26 then 34 else if op = 27 then 35 else if 19 ≤ op ∧ op ≤ 37 then op else 0
theorem plain_eq (op : Int) : alu_Plain.f op = some (plainP op) := by
  unfold alu_Plain.f alu_Has.f plainP
  repeat' split
  all_goals simp_all
  all_goals omega
theorem rplain_eq (op : Int) : mimesisref07_Plain.f op = some (plainP op) := by
  unfold mimesisref07_Plain.f mimesisref07_Has.f
  by_cases h : 19 ≤ op ∧ op ≤ 37
  · by_cases h2 : op ≤ 27
    · rcases (by omega : op = 19 ∨ op = 20 ∨ op = 21 ∨ op = 22 ∨ op = 23 ∨ op = 24 ∨ op = 25 ∨ op = 26 ∨ op = 27) with rfl | rfl | rfl | rfl | rfl | rfl | rfl | rfl | rfl
      all_goals decide +kernel
    · have : plainP op = op := by
        unfold plainP
        repeat' split
        all_goals omega
      simp [h, h2, this]
  · have : plainP op = 0 := by
      unfold plainP
      repeat' split
      all_goals omega
    rw [this]
    by_cases h1 : 19 ≤ op
    · simp [h1]; omega
    · simp [h1]
theorem plain_rng (op : Int) (h : 19 ≤ op) (h' : op ≤ 37) : 28 ≤ plainP op ∧ plainP op ≤ 37 := by
  unfold plainP
  repeat' split
  all_goals omega
theorem right_eq (k n : Nat) (hn : n < 32) (hk : 72 < k) (x : Int) (h : -2147483648 ≤ x) (h' : x ≤ 2147483647) : mimesisref07_right.f k x n = some (x / 2 ^ n) := by
  have hp := pow_le32 n (by omega)
  have hp0 : 0 < 2 ^ n := Nat.pow_pos (by decide)
  unfold mimesisref07_right.f
  rw [power_eq n k (by omega) (by omega)]
  simp only [Option.bind_some]
  have e : ((2 : Int) ^ n) = ((2 ^ n : Nat) : Int) := by rw [Int.natCast_pow]; rfl
  rw [e]
  generalize 2 ^ n = z at *
  have e1 : wrap64 (z : Int) = z := by unfold wrap64; omega
  rw [e1]
  split
  · rw [if_neg (by omega), Int.tdiv_eq_ediv_of_nonneg (by omega)]
    have h3 : 0 ≤ x / (z : Int) := Int.ediv_nonneg (by omega) (by omega)
    have h4 : x / (z : Int) ≤ x := Int.ediv_le_self _ (by omega)
    congr 1
    unfold wrap64; omega
  · rw [if_neg (by omega)]
    have e2 : wrap64 ((z : Int) - 1) = z - 1 := by unfold wrap64; omega
    have e3 : wrap64 ((z : Int) - 1 - x) = z - 1 - x := by unfold wrap64; omega
    rw [e2, e3, Int.tdiv_eq_ediv_of_nonneg (by omega)]
    have h5 : ((z : Int) - 1 - x) / z = -(x / z) := by
      have hx := Int.mul_ediv_add_emod x z
      have hm := Int.emod_nonneg x (show (z : Int) ≠ 0 by omega)
      have hl := Int.emod_lt_of_pos x (show (0 : Int) < z by omega)
      refine (Int.ediv_emod_unique (r := (z : Int) - 1 - x % z) (by omega)).2 ⟨?_, by omega, by omega⟩ |>.1
      rw [Int.mul_neg]
      omega
    rw [h5]
    have h6 : -(x / (z : Int)) ≤ -x := by
      have h7 : 0 ≤ (-x) := by omega
      have h8 : ((z : Int) - 1 - x) / z ≤ -x := by
        apply Int.ediv_le_of_le_mul (by omega)
        have : (-x) * 1 ≤ (-x) * z := Int.mul_le_mul_of_nonneg_left (by omega) h7
        have h9 : (1 - (-x)) * ((z : Int) - 1) ≤ 0 := Int.mul_nonpos_of_nonpos_of_nonneg (by omega) (by omega)
        have h10 : (1 - (-x)) * ((z : Int) - 1) = (z : Int) - 1 - (-x) * z + (-x) := by grind
        omega
      omega
    have h7 : 0 ≤ -(x / (z : Int)) := by rw [← h5]; exact Int.ediv_nonneg (by omega) (by omega)
    congr 1
    unfold wrap64; omega
theorem rdo_eq (k : Nat) (hk : 72 < k) (op a b : Int) (ho : 19 ≤ op) (ho' : op ≤ 37) (ha : 0 ≤ a ∧ a ≤ 4294967295) (hb : 0 ≤ b ∧ b ≤ 4294967295) : ∃ r, alu_Do.f op a b = some (r, 0) ∧ mimesisref07_Do.f k op a b = some r := by
  unfold alu_Do.f mimesisref07_Do.f
  rw [plain_eq, rplain_eq, sgn_eq a ha, sgn_eq b hb]
  simp only [Option.bind_some]
  have hp := plain_rng op ho ho'
  generalize plainP op = p at *
  obtain ⟨n, hn⟩ : ∃ n : Nat, b % 32 = n := ⟨(b % 32).toNat, by omega⟩
  have hn32 : n < 32 := by omega
  have hw1 : IntKind.u64.wrap (b % 32) = n := by rw [IntKind.wrap_u64]; omega
  have hw2 : wrap64 (Int.tmod b 32) = n := by rw [Int.tmod_eq_emod_of_nonneg hb.1]; unfold wrap64; omega
  have hpi : ((2 : Int) ^ n) = ((2 ^ n : Nat) : Int) := by rw [Int.natCast_pow]; rfl
  rcases (by omega : p = 28 ∨ p = 29 ∨ p = 30 ∨ p = 31 ∨ p = 32 ∨ p = 33 ∨ p = 34 ∨ p = 35 ∨ p = 36 ∨ p = 37) with rfl | rfl | rfl | rfl | rfl | rfl | rfl | rfl | rfl | rfl
  · simp [word_eq]; unfold wrap64 wrap32; omega
  · simp [word_eq]; unfold wrap64 wrap32; omega
  · have c : ∀ q : Int, q = 28 ∨ q = 29 ∨ q = 31 ∨ q = 32 ∨ q = 33 ∨ q = 36 ∨ q = 37 → ¬ 30 = q := by intro q; omega
    simp only [c, true_or, or_true, if_false, if_true, Bt.and31 b hb, hw1, hw2, power_eq n k (by omega) (by omega), Option.bind_some]
    rw [if_pos (by omega)]
    refine ⟨_, rfl, ?_⟩
    congr 1
    unfold shl
    rw [Int.toNat_natCast, show min n IntKind.u32.bits = n from Nat.min_eq_left (by show n ≤ 32; omega), IntKind.wrap_u32, hpi]
    have hp0 := pow_le32 n (by omega)
    have ha2 : IntKind.u64.wrap a = a := by rw [IntKind.wrap_u64]; omega
    rw [ha2]
    generalize 2 ^ n = z at *
    have hm : 0 ≤ a * (z : Int) := Int.mul_nonneg ha.1 (by omega)
    have hm2 : a * (z : Int) ≤ 4294967295 * 4294967296 := Int.mul_le_mul ha.2 (by omega) (by omega) (by omega)
    generalize a * (z : Int) = y at *
    rw [IntKind.wrap_u64, Int.tmod_eq_emod_of_nonneg (by omega)]
    omega
  · simp only [alu_one.f, mimesisref07_one.f, xor_top a ha, xor_top b hb]
    have e : decide ((a + 2147483648) % 4294967296 < (b + 2147483648) % 4294967296) = decide (wrap32 a < wrap32 b) := by
      rw [decide_eq_decide]; unfold wrap32; omega
    rw [e]
    simp
    split <;> simp
  · simp [alu_one.f, mimesisref07_one.f]; split <;> simp
  · simp [xor_f k hk a b ha hb]
  · have c : ∀ q : Int, q = 28 ∨ q = 29 ∨ q = 30 ∨ q = 31 ∨ q = 32 ∨ q = 33 ∨ q = 36 ∨ q = 37 → ¬ 34 = q := by intro q; omega
    simp only [c, true_or, or_true, if_false, if_true, Bt.and31 b hb, hw1, hw2, power_eq n k (by omega) (by omega), Option.bind_some]
    rw [if_pos (by omega)]
    have hp0 := pow_le32 n (by omega)
    have hp1 : 0 < 2 ^ n := Nat.pow_pos (by decide)
    rw [if_neg (by omega)]
    refine ⟨_, rfl, ?_⟩
    congr 1
    unfold shr
    rw [Int.toNat_natCast, show min n IntKind.u32.bits = n from Nat.min_eq_left (by show n ≤ 32; omega), hpi]
    have ha2 : IntKind.u64.wrap a = a := by rw [IntKind.wrap_u64]; omega
    rw [ha2, Int.tdiv_eq_ediv_of_nonneg ha.1]
    generalize 2 ^ n = z at *
    have h3 : 0 ≤ a / (z : Int) := Int.ediv_nonneg (by omega) (by omega)
    have h4 : a / (z : Int) ≤ a := Int.ediv_le_self _ (by omega)
    rw [IntKind.wrap_u64]
    omega
  · have c : ∀ q : Int, q = 28 ∨ q = 29 ∨ q = 30 ∨ q = 31 ∨ q = 32 ∨ q = 33 ∨ q = 34 ∨ q = 36 ∨ q = 37 → ¬ 35 = q := by intro q; omega
    have hx : -2147483648 ≤ wrap32 a ∧ wrap32 a ≤ 2147483647 := by unfold wrap32; omega
    simp only [c, true_or, or_true, if_false, if_true, Bt.and31 b hb, hw1, hw2, right_eq k n (by omega) hk _ hx.1 hx.2, word_eq, Option.bind_some]
    rw [if_pos (by omega)]
    refine ⟨_, rfl, ?_⟩
    congr 1
    unfold shr
    rw [Int.toNat_natCast, show min n IntKind.i32.bits = n from Nat.min_eq_left (by show n ≤ 32; omega)]
  · simp [or_f k hk a b ha hb]
  · simp [and_f k hk a b ha hb]
theorem AluDoes : mimesislaw07_AluDoes.Pure := by
  intro op a b _ ha hb
  have ha := u32_of_wf ha
  have hb := u32_of_wf hb
  obtain ⟨k, hk⟩ : ∃ k : Nat, 72 < k := ⟨73, by omega⟩
  refine ⟨k, ?_⟩
  unfold mimesislaw07_AluDoes.f
  by_cases ho : 19 ≤ op ∧ op ≤ 37
  · obtain ⟨r, h1, h2⟩ := rdo_eq k hk op a b ho.1 ho.2 ha hb
    rw [h1, h2]
    simp [alu_Has.f, mimesisref07_Has.f, ho.1, ho.2, awake_eq]
  · have hp : plainP op = 0 := by
      unfold plainP
      repeat' split
      all_goals omega
    have h1 : alu_Do.f op a b = some (0, 9) := by
      unfold alu_Do.f
      rw [plain_eq, hp]
      simp
    rw [h1]
    by_cases h2 : 19 ≤ op
    · have h3 : ¬ op ≤ 37 := by omega
      simp [alu_Has.f, mimesisref07_Has.f, h2, h3, awake_eq]
    · simp [alu_Has.f, mimesisref07_Has.f, h2, awake_eq]
end Go.Proofs.Ytnooikjkjcflbab.Pure
