import Derived.Test.YtjmljepndicdmaaDoorC2
import Derived.Test.YtjmljepndicdmaaDoorS6
import Derived.Test.YtjmljepndicdmaaDoorS0
set_option linter.unusedVariables false
set_option linter.unusedSimpArgs false
namespace Go.Proofs.YtjmljepndicdmaaDoor
open Go.RowKit

/-- A size as four digits. -/
def arr (D : Nat) : Array Value := #[.int .u64 (limb D 0), .int .u64 (limb D 1), .int .u64 (limb D 2), .int .u64 (limb D 3)]
theorem arr_get (D k : Nat) (hk : k < 4) : (arr D)[k]? = some (.int .u64 (limb D k)) := by
  match k, hk with
  | 0, _ => rfl
  | 1, _ => rfl
  | 2, _ => rfl
  | 3, _ => rfl
theorem arr_set (Q R k x : Nat) (hk : k < 4) (h : ∀ k', limb R k' = if k' = k then x else limb Q k') : (arr Q).setIfInBounds k (.int .u64 x) = arr R := by
  unfold arr
  rw [h 0, h 1, h 2, h 3]
  match k, hk with
  | 0, _ => rfl
  | 1, _ => rfl
  | 2, _ => rfl
  | 3, _ => rfl

theorem mulwrap (x y p : Nat) (hp : p = x * y) (hx : x < 4294967296) (hy : y < 4294967296) : IntKind.u64.wrap ((x : Int) * y) = (p : Int) := by
  have h := Nat.mul_le_mul (show x ≤ 4294967295 by omega) (show y ≤ 4294967295 by omega)
  rw [← Int.natCast_mul, ← hp]
  rw [← hp] at h
  exact wraps_u64 _ (by omega) (by omega)
theorem mul_bd (x y p : Nat) (hp : p = x * y) (hx : x < 4294967296) (hy : y < 4294967296) : p ≤ 18446744065119617025 := by
  have h := Nat.mul_le_mul (show x ≤ 4294967295 by omega) (show y ≤ 4294967295 by omega)
  rw [← hp] at h; exact h

theorem times_arr (a b : Nat) (w : World) (ha : a < 18446744073709551616) (hb : b < 18446744073709551616) :
    Calls Tryd.prog 42 #[.int .u64 a, .int .u64 b] w fun e w' => e = .returned (.agg (arr (a * b))) ∧ Below w.heap.size w w' := by
  obtain ⟨x0, hx0⟩ : ∃ x, x = a % 4294967296 := ⟨_, rfl⟩
  obtain ⟨x1, hx1⟩ : ∃ x, x = a / 4294967296 := ⟨_, rfl⟩
  obtain ⟨y0, hy0⟩ : ∃ x, x = b % 4294967296 := ⟨_, rfl⟩
  obtain ⟨y1, hy1⟩ : ∃ x, x = b / 4294967296 := ⟨_, rfl⟩
  have bx0 : x0 < 4294967296 := by omega
  have bx1 : x1 < 4294967296 := by omega
  have by0 : y0 < 4294967296 := by omega
  have by1 : y1 < 4294967296 := by omega
  have hae : a = x1 * 4294967296 + x0 := by omega
  have hbe : b = y1 * 4294967296 + y0 := by omega
  obtain ⟨p00, h1⟩ : ∃ p, p = x0 * y0 := ⟨_, rfl⟩
  obtain ⟨p01, h2⟩ : ∃ p, p = x0 * y1 := ⟨_, rfl⟩
  obtain ⟨p10, h3⟩ : ∃ p, p = x1 * y0 := ⟨_, rfl⟩
  obtain ⟨p11, h4⟩ : ∃ p, p = x1 * y1 := ⟨_, rfl⟩
  have q00 := mul_bd _ _ _ h1 bx0 by0
  have q01 := mul_bd _ _ _ h2 bx0 by1
  have q10 := mul_bd _ _ _ h3 bx1 by0
  have q11 := mul_bd _ _ _ h4 bx1 by1
  have w00 := mulwrap _ _ _ h1 bx0 by0
  have w01 := mulwrap _ _ _ h2 bx0 by1
  have w10 := mulwrap _ _ _ h3 bx1 by0
  have w11 := mulwrap _ _ _ h4 bx1 by1
  obtain ⟨l00, r1⟩ : ∃ x, x = p00 % 4294967296 := ⟨_, rfl⟩
  obtain ⟨c00, r2⟩ : ∃ x, x = p00 / 4294967296 := ⟨_, rfl⟩
  obtain ⟨n01, r3⟩ : ∃ x, x = p01 + c00 := ⟨_, rfl⟩
  obtain ⟨l01, r4⟩ : ∃ x, x = n01 % 4294967296 := ⟨_, rfl⟩
  obtain ⟨c01, r5⟩ : ∃ x, x = n01 / 4294967296 := ⟨_, rfl⟩
  obtain ⟨n10, r6⟩ : ∃ x, x = l01 + p10 := ⟨_, rfl⟩
  obtain ⟨l10, r7⟩ : ∃ x, x = n10 % 4294967296 := ⟨_, rfl⟩
  obtain ⟨c10, r8⟩ : ∃ x, x = n10 / 4294967296 := ⟨_, rfl⟩
  obtain ⟨n11, r9⟩ : ∃ x, x = c01 + p11 := ⟨_, rfl⟩
  obtain ⟨n11', r10⟩ : ∃ x, x = n11 + c10 := ⟨_, rfl⟩
  obtain ⟨l11, r11⟩ : ∃ x, x = n11' % 4294967296 := ⟨_, rfl⟩
  obtain ⟨c11, r12⟩ : ∃ x, x = n11' / 4294967296 := ⟨_, rfl⟩
  have hsum := times_sum x0 x1 y0 y1 p00 p01 p10 p11 l00 c00 n01 l01 c01 n10 l10 c10 n11' l11 c11 (by omega) r3 (by omega) r6 (by omega) (by omega) (by omega) h1 h2 h3 h4
  rw [← hae, ← hbe] at hsum
  obtain ⟨k0, k1, k2, k3⟩ := limbs_of (a * b) l00 l10 l11 c11 (by omega) (by omega) (by omega) (by omega) hsum
  have e : arr (a * b) = #[.int .u64 l00, .int .u64 l10, .int .u64 l11, .int .u64 c11] := by unfold arr; rw [k0, k1, k2, k3]
  rw [e]
  clear hsum k0 k1 k2 k3 e h1 h2 h3 h4 hae hbe
  exact times_core a b x0 x1 y0 y1 p00 l00 c00 p01 n01 l01 c01 p10 n10 l10 c10 p11 n11 n11' l11 c11 w
    (by omega) (by omega) (by omega) (by omega) (by omega) (by omega) (by omega) (by omega) (by omega)
    (by rw [and32 _ (by omega) (by omega)]; omega) (by omega) (by rw [and32 _ (by omega) (by omega)]; omega) (by omega)
    w00 (by rw [and32 _ (by omega) (by omega)]; omega) (by omega)
    w01 (by omega) (by rw [and32 _ (by omega) (by omega)]; omega) (by omega)
    w10 (by omega) (by rw [and32 _ (by omega) (by omega)]; omega) (by omega)
    w11 (by omega) (by omega) (by rw [and32 _ (by omega) (by omega)]; omega) (by omega)

theorem and_one (x : Int) (h0 : 0 ≤ x) (h1 : x < 18446744073709551616) : bits .and .u64 x 1 = x % 2 :=
  bits_mask .u64 64 (by decide) wraps_u64 1 (by decide) x h0 (by omega)

/-- What holds at the head of a round of the long division: the quotient of what has been gone through, and what is left. -/
def OvP (D b : Nat) (i r : Int) (cs : Array Value) : Prop := ∃ j : Nat, j ≤ 128 ∧ i = (j : Int) - 1 ∧ r = ((D / 2 ^ j % b : Nat) : Int) ∧ cs = arr (2 ^ j * (D / 2 ^ j / b))

theorem pow_pos' (n : Nat) : 0 < 2 ^ n := Nat.two_pow_pos n

theorem ov_steps (D b : Nat) (hD : D < 2 ^ 128) (hb : 0 < b) (hb63 : b ≤ 9223372036854775807) :
    OvSteps (OvP D b) (arr D) b (limb (D / b) 0) (limb (D / b) 1) (limb (D / b) 2) (limb (D / b) 3) := by
  refine ⟨⟨128, Nat.le_refl _, by omega, ?_, ?_⟩, ?_, ?_, ?_⟩
  · rw [Nat.div_eq_of_lt hD, Nat.zero_mod]; rfl
  · rw [Nat.div_eq_of_lt hD, Nat.zero_div, Nat.mul_zero]; rfl
  · rintro i r cs ⟨j, hj, rfl, rfl, rfl⟩
    have := Nat.mod_lt (D / 2 ^ j) hb
    exact ⟨by omega, by omega, Int.natCast_nonneg _, Int.ofNat_lt.2 this⟩
  · rintro i r cs k m ⟨j, hj, rfl, rfl, rfl⟩ hi hk hm
    obtain ⟨i, rfl⟩ : ∃ i, j = i + 1 := ⟨j - 1, by omega⟩
    have hk' : k = i / 32 := by omega
    have hm' : m = i % 32 := by omega
    have hm32 : m < 32 := by omega
    have hik : 32 * k + m = i := by omega
    have hll := limb_lt D k
    have hbit := limb_bit D k m hm32
    rw [hik] at hbit
    have hb2 : D / 2 ^ i % 2 < 2 := Nat.mod_lt _ (by decide)
    have hst := half_step D i
    obtain ⟨bit, hbt⟩ : ∃ bit, D / 2 ^ i % 2 = bit := ⟨_, rfl⟩
    rw [hbt] at hbit hst hb2
    obtain ⟨X, hX⟩ : ∃ X, D / 2 ^ (i + 1) = X := ⟨_, rfl⟩
    rw [hX] at hst
    rw [hX]
    have hr := Nat.mod_lt X hb
    obtain ⟨D1, D2⟩ := div_round X b bit hb hb2
    rw [← hst] at D1 D2
    have hlm : ((limb D k : Nat) : Int) / 2 ^ m = ((limb D k / 2 ^ m : Nat) : Int) := by rw [Int.natCast_ediv, Int.natCast_pow]; rfl
    have hle : limb D k / 2 ^ m ≤ limb D k := Nat.div_le_self _ _
    refine ⟨(limb D k : Int), (bit : Int), ((2 * (X % b) + bit : Nat) : Int), arr_get D k (by omega), Int.natCast_nonneg _, by omega, ?_, ?_, by omega, by omega, ?_, ?_⟩
    · rw [hlm, and_one _ (Int.natCast_nonneg _) (by omega)]
      have : ((limb D k / 2 ^ m % 2 : Nat) : Int) = (bit : Int) := congrArg Int.ofNat hbit
      omega
    · rw [bits_join .u64 64 (by decide) wraps_u64 1 _ _ (by omega) (by omega) (by omega) (by omega) (by omega) (by omega)]
      omega
    · intro h
      obtain ⟨q1, q2⟩ := D1 (by omega)
      refine ⟨i, by omega, by omega, by rw [q2], ?_⟩
      rw [q1, Nat.pow_succ, Nat.mul_assoc]
    · intro h
      obtain ⟨q1, q2⟩ := D2 (by omega)
      obtain ⟨q, hq⟩ : ∃ q, X / b = q := ⟨_, rfl⟩
      rw [hq] at q1
      rw [hq]
      have hx := limb_lt (2 ^ (i + 1) * q) k
      have hp : 2 ^ m < 2 ^ 32 := Nat.pow_lt_pow_right (by decide) hm32
      have hpc : (2 : Int) ^ m = ((2 ^ m : Nat) : Int) := by rw [Int.natCast_pow]; rfl
      refine ⟨(limb (2 ^ (i + 1) * q) k : Int), ((limb (2 ^ (i + 1) * q) k ||| 2 ^ m : Nat) : Int), arr_get _ k (by omega), ?_, i, by omega, by omega, ?_, ?_⟩
      · have hp2 : 2 ^ m < 18446744073709551616 := Nat.lt_trans hp (by decide)
        rw [hpc, wraps_u64 _ (Int.natCast_nonneg _) (Int.ofNat_lt.2 hp2)]
        exact (bits_nat .u64 64 (by decide) wraps_u64 _ _ (by omega) (by omega)).2
      · rw [q2]; omega
      · rw [q1]
        have e : 2 ^ i * (2 * q + 1) = 2 ^ (i + 1) * q + 2 ^ i := by rw [Nat.mul_add, Nat.mul_one, Nat.pow_succ, Nat.mul_assoc]
        rw [e]
        refine arr_set _ _ k _ (by omega) (fun k' => ?_)
        rw [limb_or, ← hk', ← hm']
        by_cases h' : k' = k
        · rw [if_pos h', if_pos h', h']
        · rw [if_neg h', if_neg h']
  · rintro r cs ⟨j, hj, h1, rfl, rfl⟩
    obtain rfl : j = 0 := by omega
    rw [Nat.pow_zero, Nat.div_one, Nat.one_mul]
    rfl

theorem over_arr (D b : Nat) (w : World) (hD : D < 2 ^ 128) (hb : 0 < b) (hb63 : b ≤ 9223372036854775807) :
    Calls Tryd.prog 41 #[.agg (arr D), .int .u64 b] w fun e w' => e = .returned (.agg (arr (D / b))) ∧ Below w.heap.size w w' :=
  over_core _ _ _ _ b _ _ _ _ w (OvP D b) (by omega) (Lib.hid (ov_steps D b hD hb hb63))

/-- A size with a sign, what is beyond the top cut off. -/
def szF (n : Nat) (m : Bool) : Int := if m then -(if n < 9223372036854775808 then (n : Int) else 9223372036854775807) else (if n < 9223372036854775808 then (n : Int) else 9223372036854775807)

set_option maxHeartbeats 1000000 in
theorem sized_small (d0 d1 : Int) (v : Int) (m : Bool) (w : World) (h1 : d1 < 2147483648) (h1' : 0 ≤ d1) (e : bits .or .u64 (d1 * 4294967296) d0 = v) (v0 : 0 ≤ v) (v1 : v ≤ 9223372036854775807) :
    Calls Tryd.prog 40 #[.agg #[.int .u64 d0, .int .u64 d1, .int .u64 0, .int .u64 0], .bool m] w fun e w' => e = .returned (.int .i64 (if m then -v else v)) ∧ Below w.heap.size w w' := by
  cases m
  all_goals
    go_enter Tryd.func40, Tryd.ntmps40
    go_wp2_with fail
    go_ret
    exact ⟨rfl, (Below.refl _ _).alloc (Nat.le_refl _) _⟩
set_option maxHeartbeats 1000000 in
theorem sized_big (d0 d1 d2 d3 : Int) (m : Bool) (w : World) (h : d2 ≠ 0 ∨ (d2 = 0 ∧ d3 ≠ 0) ∨ (d2 = 0 ∧ d3 = 0 ∧ 2147483648 ≤ d1)) :
    Calls Tryd.prog 40 #[.agg #[.int .u64 d0, .int .u64 d1, .int .u64 d2, .int .u64 d3], .bool m] w fun e w' => e = .returned (.int .i64 (if m then -9223372036854775807 else 9223372036854775807)) ∧ Below w.heap.size w w' := by
  rcases h with h | ⟨rfl, h⟩ | ⟨rfl, rfl, h⟩
  all_goals cases m
  all_goals
    go_enter Tryd.func40, Tryd.ntmps40
    go_wp2_with fail
    go_ret
    exact ⟨rfl, (Below.refl _ _).alloc (Nat.le_refl _) _⟩

theorem sized_arr (D : Nat) (m : Bool) (w : World) (hD : D < 2 ^ 128) :
    Calls Tryd.prog 40 #[.agg (arr D), .bool m] w fun e w' => e = .returned (.int .i64 (szF D m)) ∧ Below w.heap.size w w' := by
  have e0 := limb0 D
  have e1 := limb1 D
  have e2 := limb2 D
  have e3 := limb3 D
  by_cases h : D < 9223372036854775808
  · have e2' : limb D 2 = 0 := by rw [e2]; omega
    have e3' : limb D 3 = 0 := by rw [e3]; omega
    have := sized_small (limb D 0) (limb D 1) D m w (by rw [e1]; omega) (Int.natCast_nonneg _) (by
      rw [bits_join .u64 64 (by decide) wraps_u64 32 _ _ (by omega) (by omega) (by omega) (by omega) (by omega) (by omega)]
      rw [e0, e1]; omega) (by omega) (by omega)
    unfold arr szF
    rw [e2', e3', if_pos h]
    exact this
  · have := sized_big (limb D 0) (limb D 1) (limb D 2) (limb D 3) m w (by rw [e1, e2, e3]; omega)
    unfold arr szF
    rw [if_neg h]
    exact this
end Go.Proofs.YtjmljepndicdmaaDoor
