import Derived.Test.YtjmljepndicdmaaDoorF1
set_option linter.unusedVariables false
set_option linter.unusedSimpArgs false
namespace Go.Proofs.YtjmljepndicdmaaDoor
open Go.RowKit

theorem arr_of (D l0 l1 l2 l3 : Nat) (h0 : l0 < 4294967296) (h1 : l1 < 4294967296) (h2 : l2 < 4294967296) (h3 : l3 < 4294967296)
    (h : D = l0 + l1 * 4294967296 + l2 * 18446744073709551616 + l3 * 79228162514264337593543950336) : arr D = #[.int .u64 l0, .int .u64 l1, .int .u64 l2, .int .u64 l3] := by
  obtain ⟨k0, k1, k2, k3⟩ := limbs_of D l0 l1 l2 l3 h0 h1 h2 h3 h
  unfold arr; rw [k0, k1, k2, k3]

theorem or_even (x y : Int) (hx : 0 ≤ x) (hx' : x < 4294967296) (hy : 0 ≤ y) (hy' : y < 2) : bits .or .u64 (x * 2) y = x * 2 + y :=
  bits_join .u64 64 (by decide) wraps_u64 1 _ _ (by omega) (by omega) (by omega) (by omega) (by omega) (by omega)
theorem or_high (x y : Int) (hx : 0 ≤ x) (hx' : x < 2147483648) (hy : 0 ≤ y) (hy' : y < 2) : bits .or .u64 x (y * 2147483648) = x + y * 2147483648 := by
  obtain ⟨x, rfl⟩ := Int.eq_ofNat_of_zero_le hx
  obtain ⟨z, hz⟩ := Int.eq_ofNat_of_zero_le (show 0 ≤ y * 2147483648 by omega)
  have hb := bits_join .u64 64 (by decide) wraps_u64 31 (y * 2147483648) (x : Int) (by omega) (by omega) (by omega) (by omega) (by omega) (by omega)
  rw [hz] at hb ⊢
  have e1 := (bits_nat .u64 64 (by decide) wraps_u64 z x (by omega) (by omega)).2
  have e2 := (bits_nat .u64 64 (by decide) wraps_u64 x z (by omega) (by omega)).2
  rw [e2, Nat.or_comm, ← e1, hb]; omega

theorem shl_sum (X l0 l1 l2 n0 n1 n2 a0 a1 a2 c0 c1 c2 : Nat) (hX : X = l0 + l1 * 4294967296 + l2 * 18446744073709551616)
    (e0 : n0 = c0 * 4294967296 + a0) (e1 : n1 = c1 * 4294967296 + a1) (e2 : n2 = c2 * 4294967296 + a2) (h0 : n0 = 2 * l0) (h1 : n1 = 2 * l1 + c0) (h2 : n2 = 2 * l2 + c1) :
    2 * X = a0 + a1 * 4294967296 + a2 * 18446744073709551616 + c2 * 79228162514264337593543950336 := by
  subst hX; omega
theorem shl_big (X l0 l1 l2 n0 n1 n2 a0 a1 a2 c0 c1 c2 : Nat) (hX : X = l0 + l1 * 4294967296 + l2 * 18446744073709551616)
    (e0 : n0 = c0 * 4294967296 + a0) (e1 : n1 = c1 * 4294967296 + a1) (e2 : n2 = c2 * 4294967296 + a2) (h0 : n0 = 2 * l0) (h1 : n1 = 2 * l1 + c0) (h2 : n2 = 2 * l2 + c1)
    (k0 : a0 < 4294967296) (k1 : a1 < 4294967296) (k2 : a2 < 4294967296) :
    (79228162514264337593543950336 ≤ 2 * X → c2 ≠ 0) ∧ (c2 ≠ 0 → 79228162514264337593543950336 ≤ 2 * X) := by
  have h := shl_sum X l0 l1 l2 n0 n1 n2 a0 a1 a2 c0 c1 c2 hX e0 e1 e2 h0 h1 h2
  rw [h]
  clear h hX e0 e1 e2 h0 h1 h2
  have h1 : a0 + a1 * 4294967296 < 18446744073709551616 := by omega
  have h2 : (a2 + 1) * 18446744073709551616 ≤ 4294967296 * 18446744073709551616 := Nat.mul_le_mul_right _ k2
  rw [Nat.succ_mul] at h2
  have h3 : a0 + a1 * 4294967296 + a2 * 18446744073709551616 < 79228162514264337593543950336 := by
    rw [Nat.add_comm]
    exact Nat.lt_of_lt_of_le (Nat.add_lt_add_left h1 _) h2
  constructor
  · intro h4 h5
    rw [h5, Nat.zero_mul, Nat.add_zero] at h4
    exact absurd h3 (Nat.not_lt.2 h4)
  · intro h
    have h6 : 1 * 79228162514264337593543950336 ≤ c2 * 79228162514264337593543950336 := Nat.mul_le_mul_right _ (Nat.one_le_iff_ne_zero.2 h)
    rw [Nat.one_mul] at h6
    exact Nat.le_trans h6 (Nat.le_add_left _ _)

theorem three_limbs (X : Nat) (h : X < 79228162514264337593543950336) : X = limb X 0 + limb X 1 * 4294967296 + limb X 2 * 18446744073709551616 ∧ limb X 3 = 0 := by
  have e2 : X / 18446744073709551616 % 4294967296 = X / 18446744073709551616 := by
    apply Nat.mod_eq_of_lt
    exact Nat.div_lt_of_lt_mul h
  refine ⟨?_, ?_⟩
  · rw [limb0, limb1, limb2, e2]
    clear e2 h
    omega
  · rw [limb3, Nat.div_eq_of_lt h]

/-- A size doubled, digit by digit. -/
theorem shl_facts (X : Nat) (h : X < 79228162514264337593543950336) : ∃ l0 l1 l2 l3 n0 n1 n2 n3 a0 a1 a2 a3 c0 c1 c2 : Int,
    arr X = #[.int .u64 l0, .int .u64 l1, .int .u64 l2, .int .u64 l3] ∧ arr (2 * X) = #[.int .u64 a0, .int .u64 a1, .int .u64 a2, .int .u64 a3] ∧
    (0 ≤ l0 ∧ l0 < 4294967296) ∧ (0 ≤ l1 ∧ l1 < 4294967296) ∧ (0 ≤ l2 ∧ l2 < 4294967296) ∧ (0 ≤ l3 ∧ l3 < 4294967296) ∧ (0 ≤ c0 ∧ c0 < 2) ∧ (0 ≤ c1 ∧ c1 < 2) ∧ (0 ≤ c2 ∧ c2 < 2) ∧
    bits .or .u64 (l0 * 2) 0 = n0 ∧ bits .and .u64 n0 4294967295 = a0 ∧ n0 / 4294967296 = c0 ∧
    bits .or .u64 (l1 * 2) c0 = n1 ∧ bits .and .u64 n1 4294967295 = a1 ∧ n1 / 4294967296 = c1 ∧
    bits .or .u64 (l2 * 2) c1 = n2 ∧ bits .and .u64 n2 4294967295 = a2 ∧ n2 / 4294967296 = c2 ∧
    bits .or .u64 (l3 * 2) c2 = n3 ∧ bits .and .u64 n3 4294967295 = a3 ∧ n3 / 4294967296 = 0 ∧ ((a3 != 0) = decide (79228162514264337593543950336 ≤ 2 * X)) := by
  obtain ⟨hX, hl3⟩ := three_limbs X h
  have b0 := limb_lt X 0
  have b1 := limb_lt X 1
  have b2 := limb_lt X 2
  have hA : arr X = #[.int .u64 (limb X 0), .int .u64 (limb X 1), .int .u64 (limb X 2), .int .u64 ((0 : Nat) : Int)] := by unfold arr; rw [hl3]
  generalize limb X 0 = l0 at *
  generalize limb X 1 = l1 at *
  generalize limb X 2 = l2 at *
  clear hl3
  obtain ⟨n0, h0⟩ : ∃ n, n = 2 * l0 := ⟨_, rfl⟩
  obtain ⟨c0, h1⟩ : ∃ n, n = n0 / 4294967296 := ⟨_, rfl⟩
  obtain ⟨a0, h2⟩ : ∃ n, n = n0 % 4294967296 := ⟨_, rfl⟩
  obtain ⟨n1, h3⟩ : ∃ n, n = 2 * l1 + c0 := ⟨_, rfl⟩
  obtain ⟨c1, h4⟩ : ∃ n, n = n1 / 4294967296 := ⟨_, rfl⟩
  obtain ⟨a1, h5⟩ : ∃ n, n = n1 % 4294967296 := ⟨_, rfl⟩
  obtain ⟨n2, h6⟩ : ∃ n, n = 2 * l2 + c1 := ⟨_, rfl⟩
  obtain ⟨c2, h7⟩ : ∃ n, n = n2 / 4294967296 := ⟨_, rfl⟩
  obtain ⟨a2, h8⟩ : ∃ n, n = n2 % 4294967296 := ⟨_, rfl⟩
  have hA2 := arr_of (2 * X) a0 a1 a2 c2 (by omega) (by omega) (by omega) (by omega) (shl_sum X l0 l1 l2 n0 n1 n2 a0 a1 a2 c0 c1 c2 hX (by omega) (by omega) (by omega) h0 h3 h6)
  have hbig := shl_big X l0 l1 l2 n0 n1 n2 a0 a1 a2 c0 c1 c2 hX (by omega) (by omega) (by omega) h0 h3 h6 (by omega) (by omega) (by omega)
  clear hX h
  refine ⟨l0, l1, l2, ((0 : Nat) : Int), n0, n1, n2, (c2 : Int), a0, a1, a2, c2, c0, c1, c2, hA, hA2, by omega, by omega, by omega, by omega, by omega, by omega, by omega, ?_, ?_, by omega, ?_, ?_, by omega, ?_, ?_, by omega, ?_, ?_, by omega, ?_⟩
  · rw [or_even _ _ (by omega) (by omega) (by omega) (by omega)]; omega
  · rw [and32 _ (by omega) (by omega)]; omega
  · rw [or_even _ _ (by omega) (by omega) (by omega) (by omega)]; omega
  · rw [and32 _ (by omega) (by omega)]; omega
  · rw [or_even _ _ (by omega) (by omega) (by omega) (by omega)]; omega
  · rw [and32 _ (by omega) (by omega)]; omega
  · rw [or_even _ _ (by omega) (by omega) (by omega) (by omega)]; omega
  · rw [and32 _ (by omega) (by omega)]; omega
  · by_cases hc : c2 = 0
    · have : ¬ 79228162514264337593543950336 ≤ 2 * X := fun h => hbig.1 h hc
      rw [decide_eq_false this]
      have hc' : (c2 : Int) = 0 := by omega
      rw [hc']; rfl
    · have : 79228162514264337593543950336 ≤ 2 * X := hbig.2 hc
      rw [decide_eq_true this]
      simp only [bne_iff_ne]; omega

/-- A size halved, digit by digit. -/
theorem shr_facts (X : Nat) (h : X < 340282366920938463463374607431768211456) : ∃ l0 l1 l2 l3 a0 a1 a2 a3 k1 k2 k3 : Int,
    arr X = #[.int .u64 l0, .int .u64 l1, .int .u64 l2, .int .u64 l3] ∧ arr (X / 2) = #[.int .u64 a0, .int .u64 a1, .int .u64 a2, .int .u64 a3] ∧
    (0 ≤ l0 ∧ l0 < 4294967296) ∧ (0 ≤ l1 ∧ l1 < 4294967296) ∧ (0 ≤ l2 ∧ l2 < 4294967296) ∧ (0 ≤ l3 ∧ l3 < 4294967296) ∧ (0 ≤ k1 ∧ k1 < 2) ∧ (0 ≤ k2 ∧ k2 < 2) ∧ (0 ≤ k3 ∧ k3 < 2) ∧
    bits .or .u64 (l3 / 2) 0 = a3 ∧ bits .and .u64 l3 1 = k3 ∧
    bits .or .u64 (l2 / 2) (k3 * 2147483648) = a2 ∧ bits .and .u64 l2 1 = k2 ∧
    bits .or .u64 (l1 / 2) (k2 * 2147483648) = a1 ∧ bits .and .u64 l1 1 = k1 ∧
    bits .or .u64 (l0 / 2) (k1 * 2147483648) = a0 := by
  have e0 := limb0 X
  have e1 := limb1 X
  have e2 := limb2 X
  have e3 := limb3 X
  have b0 := limb_lt X 0
  have b1 := limb_lt X 1
  have b2 := limb_lt X 2
  have b3 := limb_lt X 3
  have hX : X = limb X 0 + limb X 1 * 4294967296 + limb X 2 * 18446744073709551616 + limb X 3 * 79228162514264337593543950336 := by rw [e0, e1, e2, e3]; omega
  have hA := arr_of X (limb X 0) (limb X 1) (limb X 2) (limb X 3) b0 b1 b2 b3 (by omega)
  generalize limb X 0 = l0 at *
  generalize limb X 1 = l1 at *
  generalize limb X 2 = l2 at *
  generalize limb X 3 = l3 at *
  clear e0 e1 e2 e3
  have hA2 := arr_of (X / 2) (l0 / 2 + l1 % 2 * 2147483648) (l1 / 2 + l2 % 2 * 2147483648) (l2 / 2 + l3 % 2 * 2147483648) (l3 / 2) (by omega) (by omega) (by omega) (by omega) (by omega)
  refine ⟨l0, l1, l2, l3, _, _, _, _, ((l1 % 2 : Nat) : Int), ((l2 % 2 : Nat) : Int), ((l3 % 2 : Nat) : Int), hA, hA2, by omega, by omega, by omega, by omega, by omega, by omega, by omega, ?_, ?_, ?_, ?_, ?_, ?_, ?_⟩
  · have := or_high ((l3 : Int) / 2) 0 (by omega) (by omega) (by omega) (by omega)
    rw [Int.zero_mul] at this
    rw [this]; omega
  · rw [and_one _ (by omega) (by omega)]; omega
  · rw [or_high _ _ (by omega) (by omega) (by omega) (by omega)]; omega
  · rw [and_one _ (by omega) (by omega)]; omega
  · rw [or_high _ _ (by omega) (by omega) (by omega) (by omega)]; omega
  · rw [and_one _ (by omega) (by omega)]; omega
  · rw [or_high _ _ (by omega) (by omega) (by omega) (by omega)]; omega
end Go.Proofs.YtjmljepndicdmaaDoor
