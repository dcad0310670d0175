namespace Go.Proofs.YtjmljepndicdmaaDoor

/-- The digit of place k to the base 2^32. -/
def limb (D k : Nat) : Nat := D / 2 ^ (32 * k) % 2 ^ 32
theorem limb_lt (D k : Nat) : limb D k < 4294967296 := Nat.mod_lt _ (by decide)
theorem limb0 (D : Nat) : limb D 0 = D % 4294967296 := by unfold limb; rw [show 2 ^ (32 * 0) = 1 from rfl, Nat.div_one]
theorem limb1 (D : Nat) : limb D 1 = D / 4294967296 % 4294967296 := rfl
theorem limb2 (D : Nat) : limb D 2 = D / 18446744073709551616 % 4294967296 := rfl
theorem limb3 (D : Nat) : limb D 3 = D / 79228162514264337593543950336 % 4294967296 := rfl

theorem limbs_of (D l0 l1 l2 l3 : Nat) (h0 : l0 < 4294967296) (h1 : l1 < 4294967296) (h2 : l2 < 4294967296) (h3 : l3 < 4294967296)
    (h : D = l0 + l1 * 4294967296 + l2 * 18446744073709551616 + l3 * 79228162514264337593543950336) : limb D 0 = l0 ∧ limb D 1 = l1 ∧ limb D 2 = l2 ∧ limb D 3 = l3 := by
  rw [limb0, limb1, limb2, limb3]
  omega

theorem limb_bit (D k m : Nat) (hm : m < 32) : limb D k / 2 ^ m % 2 = D / 2 ^ (32 * k + m) % 2 := by
  unfold limb
  have e : 2 ^ 32 = 2 ^ m * 2 ^ (32 - m) := by rw [← Nat.pow_add]; congr 1; omega
  rw [e, Nat.mod_mul_right_div_self, Nat.div_div_eq_div_mul, ← Nat.pow_add]
  have d : 2 ∣ 2 ^ (32 - m) := ⟨2 ^ (31 - m), by rw [← Nat.pow_succ']; congr 1; omega⟩
  exact Nat.mod_mod_of_dvd _ d

theorem limb_or (q i k : Nat) : limb (2 ^ (i + 1) * q + 2 ^ i) k = if k = i / 32 then limb (2 ^ (i + 1) * q) k ||| 2 ^ (i % 32) else limb (2 ^ (i + 1) * q) k := by
  rw [Nat.two_pow_add_eq_or_of_lt (Nat.pow_lt_pow_right (by decide) (Nat.lt_succ_self i)) q]
  generalize 2 ^ (i + 1) * q = Q
  apply Nat.eq_of_testBit_eq
  intro j
  unfold limb
  by_cases hk : k = i / 32
  · rw [if_pos hk]
    simp only [Nat.testBit_mod_two_pow, Nat.testBit_div_two_pow, Nat.testBit_or, Nat.testBit_two_pow]
    by_cases hj : j < 32
    · have : (i = j + 32 * k) ↔ (i % 32 = j) := by omega
      simp [hj, this]
    · have h2 : ¬ i % 32 = j := by omega
      simp [hj, h2]
  · rw [if_neg hk]
    simp only [Nat.testBit_mod_two_pow, Nat.testBit_div_two_pow, Nat.testBit_or, Nat.testBit_two_pow]
    by_cases hj : j < 32
    · have : ¬ i = j + 32 * k := by omega
      simp [hj, this]
    · simp [hj]

theorem half_step (D i : Nat) : D / 2 ^ i = 2 * (D / 2 ^ (i + 1)) + D / 2 ^ i % 2 := by
  have : D / 2 ^ (i + 1) = D / 2 ^ i / 2 := by rw [Nat.pow_succ, Nat.div_div_eq_div_mul]
  rw [this]; omega

/-- One round of the long division. -/
theorem div_round (X b bit : Nat) (hb : 0 < b) (hbit : bit < 2) :
    (2 * (X % b) + bit < b → (2 * X + bit) / b = 2 * (X / b) ∧ (2 * X + bit) % b = 2 * (X % b) + bit) ∧
    (b ≤ 2 * (X % b) + bit → (2 * X + bit) / b = 2 * (X / b) + 1 ∧ (2 * X + bit) % b = 2 * (X % b) + bit - b) := by
  have hd := Nat.div_add_mod X b
  have hlt := Nat.mod_lt X hb
  have e : b * (2 * (X / b)) = 2 * (b * (X / b)) := by rw [Nat.mul_left_comm]
  constructor
  · intro h
    have e2 : 2 * X + bit = b * (2 * (X / b)) + (2 * (X % b) + bit) := by rw [e]; omega
    constructor
    · rw [e2, Nat.mul_add_div hb, Nat.div_eq_of_lt h, Nat.add_zero]
    · rw [e2, Nat.mul_add_mod, Nat.mod_eq_of_lt h]
  · intro h
    have e3 : b * (2 * (X / b) + 1) = 2 * (b * (X / b)) + b := by rw [Nat.mul_add, e, Nat.mul_one]
    have e2 : 2 * X + bit = b * (2 * (X / b) + 1) + (2 * (X % b) + bit - b) := by rw [e3]; omega
    have h2 : 2 * (X % b) + bit - b < b := by omega
    constructor
    · rw [e2, Nat.mul_add_div hb, Nat.div_eq_of_lt h2, Nat.add_zero]
    · rw [e2, Nat.mul_add_mod, Nat.mod_eq_of_lt h2]

/-- The product of two sizes, digit by digit. -/
theorem times_sum (x0 x1 y0 y1 p00 p01 p10 p11 l00 c00 n01 l01 c01 n10 l10 c10 n11 l11 c11 : Nat)
    (e1 : p00 = c00 * 4294967296 + l00) (e2 : n01 = p01 + c00) (e3 : n01 = c01 * 4294967296 + l01) (e4 : n10 = l01 + p10) (e5 : n10 = c10 * 4294967296 + l10)
    (e6 : n11 = c01 + p11 + c10) (e7 : n11 = c11 * 4294967296 + l11)
    (h1 : p00 = x0 * y0) (h2 : p01 = x0 * y1) (h3 : p10 = x1 * y0) (h4 : p11 = x1 * y1) :
    (x1 * 4294967296 + x0) * (y1 * 4294967296 + y0) = l00 + l10 * 4294967296 + l11 * 18446744073709551616 + c11 * 79228162514264337593543950336 := by
  have e : (x1 * 4294967296 + x0) * (y1 * 4294967296 + y0) = x1 * y1 * 18446744073709551616 + x1 * y0 * 4294967296 + (x0 * y1 * 4294967296 + x0 * y0) := by
    rw [Nat.add_mul, Nat.mul_add, Nat.mul_add]
    congr 1
    · congr 1
      · rw [Nat.mul_mul_mul_comm]
      · rw [Nat.mul_right_comm]
    · congr 1
      rw [Nat.mul_assoc]
  rw [e, ← h1, ← h2, ← h3, ← h4]
  omega
end Go.Proofs.YtjmljepndicdmaaDoor
