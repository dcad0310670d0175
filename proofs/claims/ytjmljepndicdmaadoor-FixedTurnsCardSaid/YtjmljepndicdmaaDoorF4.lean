import Derived.Test.YtjmljepndicdmaaDoorF3
set_option linter.unusedVariables false
set_option linter.unusedSimpArgs false
namespace Go.Proofs.YtjmljepndicdmaaDoor
open Go.RowKit

/-- The size that a float's bits mean, in millionths, cut off. -/
def scaleN (P e : Nat) : Nat := if 1075 ≤ e then P * 2 ^ (e - 1075) else P / 2 ^ (1075 - e)
def floatE (b : Nat) : Nat := b / 4503599627370496 % 2048
def floatM (b : Nat) : Nat := b % 4503599627370496
def floatS (b : Nat) : Bool := ((b : Int) / 9223372036854775808 == 1)
def floatF (b : Nat) : Int × Int :=
  if floatE b = 2047 then (if floatM b = 0 then (szF 18446744073709551616 (floatS b), 0) else (0, 1))
  else if floatE b = 0 then (szF (scaleN (floatM b * 1000000) 1) (floatS b), 0) else (szF (scaleN ((floatM b + 4503599627370496) * 1000000) (floatE b)) (floatS b), 0)

theorem sgn_sz (N : Nat) (m : Bool) : sgnF N m false = szF N m := by
  unfold sgnF szF
  cases m <;> simp <;> (repeat' split) <;> omega
theorem sgn_big (x : Int) (N : Nat) (m : Bool) (h : 9223372036854775808 ≤ N) : sgnF x m true = szF N m := by
  unfold sgnF szF
  cases m <;> simp <;> (repeat' split) <;> omega
theorem sgn_inf (m : Bool) : sgnF 0 m true = szF 18446744073709551616 m := sgn_big 0 _ m (by decide)

theorem floatE_lt (b : Nat) : floatE b < 2048 := Nat.mod_lt _ (by decide)
theorem floatM_lt (b : Nat) : floatM b < 4503599627370496 := Nat.mod_lt _ (by decide)
theorem and_e (b : Nat) (h : b < 18446744073709551616) : bits .and .u64 ((b : Int) / 4503599627370496) 2047 = (floatE b : Int) := by
  have := bits_mask .u64 64 (by decide) wraps_u64 11 (by decide) ((b : Int) / 4503599627370496) (by omega) (by omega)
  unfold floatE
  rw [show ((2 : Int) ^ 11 - 1) = 2047 from rfl, show ((2 : Int) ^ 11) = 2048 from rfl] at this
  rw [this]; omega
theorem and_m (b : Nat) (h : b < 18446744073709551616) : bits .and .u64 (b : Int) 4503599627370495 = (floatM b : Int) := by
  have := bits_mask .u64 64 (by decide) wraps_u64 52 (by decide) (b : Int) (by omega) (by omega)
  unfold floatM
  rw [show ((2 : Int) ^ 52 - 1) = 4503599627370495 from rfl, show ((2 : Int) ^ 52) = 4503599627370496 from rfl] at this
  rw [this]; omega
theorem or_m (m : Nat) (h : m < 4503599627370496) : bits .or .u64 (m : Int) 4503599627370496 = ((m + 4503599627370496 : Nat) : Int) := by
  have hb := bits_join .u64 64 (by decide) wraps_u64 52 (4503599627370496 : Int) (m : Int) (by omega) (by decide) (by omega) (by omega) (by omega) (by omega)
  have e1 := (bits_nat .u64 64 (by decide) wraps_u64 4503599627370496 m (by omega) (by omega)).2
  have e2 := (bits_nat .u64 64 (by decide) wraps_u64 m 4503599627370496 (by omega) (by omega)).2
  have c : ((4503599627370496 : Nat) : Int) = 4503599627370496 := rfl
  rw [c] at e1 e2
  rw [e2, Nat.or_comm, ← e1, hb]; omega

theorem fv_start (P e : Nat) (hP : P < 79228162514264337593543950336) (h1 : 1 ≤ e) (h2 : e ≤ 2046) : FV (scaleN P e) (e : Int) P := by
  refine ⟨hP, by omega, by omega, fun h => ?_, fun h => ?_⟩
  · unfold scaleN
    rw [if_pos (by omega), show ((e : Int) - 1075).toNat = e - 1075 by omega]
  · unfold scaleN
    rw [show (1075 - (e : Int)).toNat = 1075 - e by omega]
    split
    · have : e = 1075 := by omega
      subst this; rw [Nat.sub_self, Nat.pow_zero, Nat.mul_one, Nat.div_one]
    · rfl

theorem prod_lt (m : Nat) (h : m < 9007199254740992) : m * 1000000 < 79228162514264337593543950336 := by
  have := Nat.mul_le_mul_right 1000000 (Nat.le_of_lt h)
  exact Nat.lt_of_le_of_lt this (by decide)

set_option maxRecDepth 100000 in
set_option maxHeartbeats 1000000 in
theorem rfloat_nan (b m : Int) (mns : Bool) (w : World) (b0 : 0 ≤ b) (b1 : b < 18446744073709551616) (e1 : (b / 9223372036854775808 == 1) = mns)
    (e2 : bits .and .u64 (b / 4503599627370496) 2047 = 2047) (e3 : bits .and .u64 b 4503599627370495 = m) (hm' : (m != 0) = true) :
    Calls Tryd.prog 26 #[.int .u64 b] w fun e w' => e = .returned (.tuple #[.int .i64 0, .int .i64 1]) ∧ w = w' := by
  go_enter Tryd.func26, Tryd.ntmps26
  go_wp2_with fail
  go_ret2
  exact ⟨rfl, rfl⟩

set_option maxRecDepth 100000 in
set_option maxHeartbeats 1000000 in
theorem rfloat_inf (b : Int) (mns : Bool) (w : World) (b0 : 0 ≤ b) (b1 : b < 18446744073709551616) (e1 : (b / 9223372036854775808 == 1) = mns)
    (e2 : bits .and .u64 (b / 4503599627370496) 2047 = 2047) (e3 : bits .and .u64 b 4503599627370495 = 0) :
    Calls Tryd.prog 26 #[.int .u64 b] w fun e w' => e = .returned (.tuple #[.int .i64 (szF 18446744073709551616 mns), .int .i64 0]) ∧ Below w.heap.size w w' := by
  have HS := Lib.hid (fun W => sized_arr 18446744073709551616 mns W (by decide))
  go_enter Tryd.func26, Tryd.ntmps26
  go_wp2_with fail
  refine (HS.out _).mono ?_; rintro e' w3 ⟨rfl, hb3⟩
  go_wp2_with fail
  go_ret2
  exact ⟨rfl, hb3⟩

theorem rfloat_any (b : Nat) (w : World) (hb : b < 18446744073709551616) :
    Calls Tryd.prog 26 #[.int .u64 b] w fun e w' => e = .returned (.tuple #[.int .i64 (floatF b).1, .int .i64 (floatF b).2]) ∧ Below w.heap.size w w' := by
  have hE := floatE_lt b
  have hM := floatM_lt b
  have a1 := and_e b hb
  have a2 := and_m b hb
  unfold floatF
  by_cases h1 : floatE b = 2047
  · rw [if_pos h1]
    rw [h1] at a1
    by_cases h2 : floatM b = 0
    · rw [if_pos h2]
      rw [h2] at a2
      exact rfloat_inf b (floatS b) w (by omega) (by omega) rfl a1 a2
    · rw [if_neg h2]
      refine (rfloat_nan b (floatM b) (floatS b) w (by omega) (by omega) rfl a1 a2 (by simp only [bne_iff_ne]; omega)).mono ?_
      rintro e w' ⟨rfl, rfl⟩
      exact ⟨rfl, Below.refl _ _⟩
  · rw [if_neg h1]
    by_cases h2 : floatE b = 0
    · rw [if_pos h2]
      rw [h2] at a1
      have T := Lib.hid (fun W => times_arr (floatM b) 1000000 W (by omega) (by decide))
      exact rfloat_zero b 1 0 (floatM b) (floatS b) w _ _ (by omega) (by omega) rfl a1 a2 rfl T (Lib.hid (fv_start _ 1 (prod_lt _ (by omega)) (by omega) (by omega)))
    · rw [if_neg h2]
      have T := Lib.hid (fun W => times_arr (floatM b + 4503599627370496) 1000000 W (by omega) (by decide))
      exact rfloat_pos b (floatE b) (floatM b) _ (floatS b) w _ _ (by omega) (by omega) rfl a1 a2 (by omega) (by omega) (or_m _ hM) T (Lib.hid (fv_start _ _ (prod_lt _ (by omega)) (by omega) (by omega)))

theorem mul_mil (m : Nat) (hm : m < 18446744073709551616) : Hid (∀ W, Calls Tryd.prog 43 #[.int .u64 m, .int .u64 1000000] W fun e w' => e = .returned (.tuple #[.int .u64 ((m * 1000000 / 18446744073709551616 : Nat) : Int), .int .u64 ((m * 1000000 % 18446744073709551616 : Nat) : Int)]) ∧ w' = W) := by
  have h6 : (1000000 : Nat) < 18446744073709551616 := by omega
  exact Lib.hid fun W => Tryd.bits_Mul64 m 1000000 hm h6 W
theorem bitLen_zero : Lib.bitLen 0 = 0 := rfl

theorem pow_split (a b : Nat) (h : b ≤ a) : 2 ^ a = 2 ^ b * 2 ^ (a - b) := by rw [← Nat.pow_add]; congr 1; omega

/-- Exponents that shift up. -/
theorem gen_up (b e M m' hi lo : Nat) (s : Bool) (w : World) (b0 : (0 : Int) ≤ (b : Int)) (b1 : (b : Int) < 18446744073709551616) (hs : ((b : Int) / 9223372036854775808 == 1) = s)
    (a1 : bits .and .u64 ((b : Int) / 4503599627370496) 2047 = (e : Int)) (a2 : bits .and .u64 (b : Int) 4503599627370495 = (M : Int)) (om : bits .or .u64 (M : Int) 4503599627370496 = (m' : Int))
    (hmne : ((m' : Int) != 0) = true) (he : 1075 ≤ e) (he' : e < 2047) (hlo : lo < 18446744073709551616) (hhi : hi < 4294967296) (hpos : 0 < hi * 18446744073709551616 + lo)
    (C : Hid (∀ W, Calls Tryd.prog 43 #[.int .u64 m', .int .u64 1000000] W fun e w' => e = .returned (.tuple #[.int .u64 hi, .int .u64 lo]) ∧ w' = W)) :
    Calls Tryd.prog 25 #[.int .u64 b] w fun x w' => x = .returned (.tuple #[.int .i64 (szF ((hi * 18446744073709551616 + lo) * 2 ^ (e - 1075)) s), .int .i64 0]) ∧ ∃ n, w' = w.drewN n := by
  have hsh0 : 0 ≤ IntKind.u64.wrap ((lo : Int) * 2 ^ (min ((e - 1075 : Nat) : Int) 63).toNat) ∧ IntKind.u64.wrap ((lo : Int) * 2 ^ (min ((e - 1075 : Nat) : Int) 63).toNat) < 18446744073709551616 := by
    rw [IntKind.wrap_u64]; omega
  have hp := Nat.two_pow_pos (e - 1075)
  by_cases hh : hi = 0
  · subst hh
    have L := Lib.hid (fun W => Tryd.bits_LeadingZeros64 (lo : Int) W (by omega) (by omega))
    refine (float_up_a b e M m' 0 lo s w b0 b1 hs a1 a2 (by omega) (by omega) om hmne (e - 1075) (by omega) C (by omega) (by omega) (by omega) (by omega) _ L rfl _ rfl hsh0.1 hsh0.2 _ rfl).mono ?_
    rintro x w' ⟨rfl, rfl⟩
    refine ⟨?_, 0, rfl⟩
    have hlb := bitLen_bd lo (by omega) hlo
    rw [Int.toNat_natCast]
    rw [Nat.zero_mul, Nat.zero_add]
    by_cases hov : 64 - (Lib.bitLen lo : Int) ≤ ((e - 1075 : Nat) : Int)
    · rw [decide_eq_true hov]
      have hN : 2 ^ 63 ≤ lo * 2 ^ (e - 1075) := by
        have h3 : 2 ^ (Lib.bitLen lo - 1) * 2 ^ (64 - Lib.bitLen lo) = 2 ^ 63 := by rw [← Nat.pow_add]; congr 1; omega
        rw [← h3]
        exact Nat.mul_le_mul hlb.2.2.1 (Nat.pow_le_pow_right (by decide) (by omega))
      rw [sgn_big _ _ s hN]
    · rw [decide_eq_false hov]
      have hle : e - 1075 ≤ 63 := by omega
      have hN : lo * 2 ^ (e - 1075) < 2 ^ 64 := by
        have h3 : 2 ^ Lib.bitLen lo * 2 ^ (64 - Lib.bitLen lo) = 2 ^ 64 := by rw [← Nat.pow_add]; congr 1; omega
        have h4 : lo * 2 ^ (e - 1075) < 2 ^ Lib.bitLen lo * 2 ^ (e - 1075) := Nat.mul_lt_mul_of_pos_right hlb.2.2.2 hp
        have h5 : 2 ^ Lib.bitLen lo * 2 ^ (e - 1075) ≤ 2 ^ Lib.bitLen lo * 2 ^ (64 - Lib.bitLen lo) := Nat.mul_le_mul_left _ (Nat.pow_le_pow_right (by decide) (by omega))
        rw [h3] at h5
        exact Nat.lt_of_lt_of_le h4 h5
      have e1 : (min ((e - 1075 : Nat) : Int) 63).toNat = e - 1075 := by omega
      have e2 : (lo : Int) * 2 ^ (e - 1075) = ((lo * 2 ^ (e - 1075) : Nat) : Int) := by rw [Int.natCast_mul, Int.natCast_pow]; rfl
      rw [e1, e2, wraps_u64 _ (Int.natCast_nonneg _) (Int.ofNat_lt.2 hN), sgn_sz]
  · refine (float_up_b b e M m' hi lo s w b0 b1 hs a1 a2 (by omega) (by omega) om hmne (e - 1075) (by omega) C (by omega) (by omega) (by omega) (by omega) (by simp only [bne_iff_ne]; omega) _ rfl hsh0.1 hsh0.2).mono ?_
    rintro x w' ⟨rfl, rfl⟩
    refine ⟨?_, 0, rfl⟩
    have hN : 9223372036854775808 ≤ (hi * 18446744073709551616 + lo) * 2 ^ (e - 1075) := by
      have h3 : 18446744073709551616 ≤ hi * 18446744073709551616 + lo := by omega
      have h4 : (hi * 18446744073709551616 + lo) * 1 ≤ (hi * 18446744073709551616 + lo) * 2 ^ (e - 1075) := Nat.mul_le_mul_left _ hp
      rw [Nat.mul_one] at h4
      exact Nat.le_trans (by decide) (Nat.le_trans h3 h4)
    rw [sgn_big _ _ s hN]

/-- Exponents that shift down. -/
theorem gen_down (b e M m' hi lo : Nat) (s : Bool) (w : World) (b0 : (0 : Int) ≤ (b : Int)) (b1 : (b : Int) < 18446744073709551616) (hs : ((b : Int) / 9223372036854775808 == 1) = s)
    (a1 : bits .and .u64 ((b : Int) / 4503599627370496) 2047 = (e : Int)) (a2 : bits .and .u64 (b : Int) 4503599627370495 = (M : Int)) (om : bits .or .u64 (M : Int) 4503599627370496 = (m' : Int))
    (he : 0 < e) (he' : e < 1075) (hlo : lo < 18446744073709551616) (hhi : hi < 4294967296)
    (C : Hid (∀ W, Calls Tryd.prog 43 #[.int .u64 m', .int .u64 1000000] W fun e w' => e = .returned (.tuple #[.int .u64 hi, .int .u64 lo]) ∧ w' = W)) :
    Calls Tryd.prog 25 #[.int .u64 b] w fun x w' => x = .returned (.tuple #[.int .i64 (szF ((hi * 18446744073709551616 + lo) / 2 ^ (1075 - e)) s), .int .i64 0]) ∧ ∃ n, w' = w.drewN n := by
  obtain ⟨r, hr⟩ : ∃ r, 1075 - e = r := ⟨_, rfl⟩
  rw [hr]
  have hr1 : 1 ≤ r := by omega
  have i1 : (1075 : Int) - (e : Int) = (r : Int) := by omega
  by_cases h128 : 128 ≤ r
  · refine (float_down_0 b e M m' hi lo s w b0 b1 hs a1 a2 r (by omega) (by omega) om i1 C (by omega) (by omega) (by omega) (by omega) (by omega)).mono ?_
    rintro x w' ⟨rfl, rfl⟩
    have hz : (hi * 18446744073709551616 + lo) / 2 ^ r = 0 := by
      apply Nat.div_eq_of_lt
      have h3 : 2 ^ 128 ≤ 2 ^ r := Nat.pow_le_pow_right (by decide) h128
      refine Nat.lt_of_lt_of_le ?_ h3
      have : hi * 18446744073709551616 + lo < 79228162514264337593543950336 := by omega
      exact Nat.lt_trans this (by decide)
    rw [hz]
    exact ⟨by cases s <;> rfl, 0, rfl⟩
  · by_cases h64 : 64 ≤ r
    · have hpw : (2 : Int) ^ (r - 64) = ((2 ^ (r - 64) : Nat) : Int) := by rw [Int.natCast_pow]; rfl
      have hdiv : (hi : Int) / 2 ^ (r - 64) = ((hi / 2 ^ (r - 64) : Nat) : Int) := by rw [hpw, Int.natCast_ediv]
      have hle : hi / 2 ^ (r - 64) ≤ hi := Nat.div_le_self _ _
      have hlt1 : hi / 2 ^ (r - 64) < 18446744073709551616 := Nat.lt_of_le_of_lt hle (Nat.lt_trans hhi (by decide))
      refine (float_down_1 b e M m' hi lo s w b0 b1 hs a1 a2 r (by omega) (by omega) om i1 C (by omega) (by omega) (by omega) (by omega) h64 (by omega) (r - 64) (by omega) _ hdiv (Int.natCast_nonneg _) (Int.ofNat_lt.2 hlt1)).mono ?_
      rintro x w' ⟨rfl, rfl⟩
      refine ⟨?_, 0, rfl⟩
      have hN : (hi * 18446744073709551616 + lo) / 2 ^ r = hi / 2 ^ (r - 64) := by
        rw [pow_split r 64 h64, ← Nat.div_div_eq_div_mul]
        congr 1
        show (hi * 18446744073709551616 + lo) / 18446744073709551616 = hi
        omega
      rw [hN, sgn_sz]
    · obtain ⟨k, hk⟩ : ∃ k, 64 - r = k := ⟨_, rfl⟩
      have hkr : 64 = r + k := by omega
      have hp64 : (18446744073709551616 : Nat) = 2 ^ r * 2 ^ k := by rw [← Nat.pow_add, ← hkr]
      have hpr := Nat.two_pow_pos r
      have hpk := Nat.two_pow_pos k
      have hpw : (2 : Int) ^ r = ((2 ^ r : Nat) : Int) := by rw [Int.natCast_pow]; rfl
      have hpwk : (2 : Int) ^ k = ((2 ^ k : Nat) : Int) := by rw [Int.natCast_pow]; rfl
      have hNeq : (hi * 18446744073709551616 + lo) / 2 ^ r = hi * 2 ^ k + lo / 2 ^ r := by
        rw [hp64, Nat.mul_left_comm, Nat.mul_add_div hpr]
      have hlok : lo / 2 ^ r < 2 ^ k := by
        apply Nat.div_lt_of_lt_mul; rw [← hp64]; exact hlo
      have hle : lo / 2 ^ r ≤ lo := Nat.div_le_self _ _
      obtain ⟨sh, hsh⟩ : ∃ sh, bits .or .u64 ((lo : Int) / 2 ^ r) (IntKind.u64.wrap ((hi : Int) * 2 ^ k)) = sh := ⟨_, rfl⟩
      have e1 : (lo : Int) / 2 ^ r = ((lo / 2 ^ r : Nat) : Int) := by rw [hpw, Int.natCast_ediv]
      have e2 : (hi : Int) * 2 ^ k = ((hi * 2 ^ k : Nat) : Int) := by rw [hpwk, Int.natCast_mul]
      have e3 : IntKind.u64.wrap ((hi : Int) * 2 ^ k) = ((hi * 2 ^ k % 18446744073709551616 : Nat) : Int) := by rw [e2, IntKind.wrap_u64]; omega
      have hml := Nat.mod_lt (hi * 2 ^ k) (show 0 < 18446744073709551616 by decide)
      have e4 := (bits_nat .u64 64 (by decide) wraps_u64 (lo / 2 ^ r) (hi * 2 ^ k % 18446744073709551616) (by omega) hml).2
      have hshn : sh = ((lo / 2 ^ r ||| hi * 2 ^ k % 18446744073709551616 : Nat) : Int) := by rw [← hsh, e1, e3, e4]
      have hshlt : (lo / 2 ^ r ||| hi * 2 ^ k % 18446744073709551616) < 2 ^ 64 := Nat.or_lt_two_pow (by omega) hml
      refine (float_down_2 b e M m' hi lo s w b0 b1 hs a1 a2 r (by omega) (by omega) om i1 C (by omega) (by omega) (by omega) (by omega) hr1 (by omega) k (by omega) (by omega) (by omega) sh hsh (by rw [hshn]; exact Int.natCast_nonneg _) (by rw [hshn]; exact Int.ofNat_lt.2 hshlt) _ rfl).mono ?_
      rintro x w' ⟨rfl, n, rfl⟩
      refine ⟨?_, n, rfl⟩
      rw [hNeq]
      have ed : (hi : Int) / 2 ^ r = ((hi / 2 ^ r : Nat) : Int) := by rw [hpw, Int.natCast_ediv]
      by_cases hov : hi < 2 ^ r
      · have h0 : hi / 2 ^ r = 0 := Nat.div_eq_of_lt hov
        rw [ed, h0]
        have hlt2 : hi * 2 ^ k < 18446744073709551616 := by
          rw [hp64]; exact Nat.mul_lt_mul_of_pos_right hov hpk
        have hor : (lo / 2 ^ r ||| hi * 2 ^ k % 18446744073709551616) = hi * 2 ^ k + lo / 2 ^ r := by
          rw [Nat.mod_eq_of_lt hlt2, Nat.or_comm, Nat.mul_comm hi, ← Nat.two_pow_add_eq_or_of_lt hlok]
        rw [hshn, hor]
        show Ending.returned (.tuple #[.int .i64 (sgnF _ s false), .int .i64 0]) = _
        rw [sgn_sz]
      · have h1 : 1 ≤ hi / 2 ^ r := (Nat.le_div_iff_mul_le hpr).2 (by omega)
        have ov : ((hi : Int) / 2 ^ r != 0) = true := by rw [ed]; simp only [bne_iff_ne]; omega
        rw [ov]
        have hN : 9223372036854775808 ≤ hi * 2 ^ k + lo / 2 ^ r := by
          have h3 : 2 ^ r * 2 ^ k ≤ hi * 2 ^ k := Nat.mul_le_mul_right _ (by omega)
          rw [← hp64] at h3
          exact Nat.le_trans (Nat.le_trans (by decide) h3) (Nat.le_add_right _ _)
        rw [sgn_big _ _ s hN]

theorem float_any (b : Nat) (w : World) (hb : b < 18446744073709551616) :
    Calls Tryd.prog 25 #[.int .u64 b] w fun e w' => e = .returned (.tuple #[.int .i64 (floatF b).1, .int .i64 (floatF b).2]) ∧ ∃ n, w' = w.drewN n := by
  have hE := floatE_lt b
  have hM := floatM_lt b
  have a1 := and_e b hb
  have a2 := and_m b hb
  have b0 : (0 : Int) ≤ (b : Int) := by omega
  have b1 : (b : Int) < 18446744073709551616 := by omega
  unfold floatF
  by_cases h1 : floatE b = 2047
  · rw [if_pos h1]
    rw [h1] at a1
    by_cases h2 : floatM b = 0
    · rw [if_pos h2]
      rw [h2] at a2
      refine (float_inf b (floatS b) w b0 b1 rfl a1 a2).mono ?_
      rintro e w' ⟨rfl, rfl⟩
      exact ⟨by rw [sgn_inf], 0, rfl⟩
    · rw [if_neg h2]
      refine (float_nan b (floatM b) (floatS b) w b0 b1 rfl a1 a2 (by omega) (by simp only [bne_iff_ne]; omega)).mono ?_
      rintro e w' ⟨rfl, rfl⟩
      exact ⟨rfl, 0, rfl⟩
  · rw [if_neg h1]
    by_cases h2 : floatE b = 0
    · rw [if_pos h2]
      rw [h2] at a1
      have hP := prod_lt (floatM b) (by omega)
      have C := mul_mil (floatM b) (Nat.lt_trans hM (by decide))
      refine (float_down_0_z b 1 (floatM b) (floatM b) _ _ (floatS b) w b0 b1 rfl a1 a2 1074 rfl rfl rfl C (by omega) (by omega) (by omega) (by omega) (by omega)).mono ?_
      rintro e w' ⟨rfl, rfl⟩
      have : scaleN (floatM b * 1000000) 1 = 0 := by
        unfold scaleN
        rw [if_neg (by decide)]
        obtain ⟨z, hz⟩ : ∃ z, 1075 - 1 = z := ⟨_, rfl⟩
        rw [hz]
        have hpp : 2 ^ 96 ≤ 2 ^ z := Nat.pow_le_pow_right (by decide) (by omega)
        exact Nat.div_eq_of_lt (Nat.lt_of_lt_of_le (show _ < 2 ^ 96 from hP) hpp)
      rw [this]
      exact ⟨by cases floatS b <;> rfl, 0, rfl⟩
    · rw [if_neg h2]
      have hM53 : floatM b + 4503599627370496 < 9007199254740992 := Nat.add_lt_add_right hM _
      have hP := prod_lt (floatM b + 4503599627370496) hM53
      have hpos : 0 < (floatM b + 4503599627370496) * 1000000 := Nat.mul_pos (Nat.lt_of_lt_of_le (by decide) (Nat.le_add_left _ _)) (by decide)
      have hm64 : floatM b + 4503599627370496 < 18446744073709551616 := Nat.lt_trans hM53 (by decide)
      have C := mul_mil (floatM b + 4503599627370496) hm64
      have om := or_m _ hM
      have hmne : (((floatM b + 4503599627370496 : Nat) : Int) != 0) = true := by simp only [bne_iff_ne]; omega
      generalize hPP : (floatM b + 4503599627370496) * 1000000 = P at *
      generalize hm' : floatM b + 4503599627370496 = m' at *
      have hdm := Nat.div_add_mod P 18446744073709551616
      have hlt := Nat.mod_lt P (show 0 < 18446744073709551616 by decide)
      have hhi : P / 18446744073709551616 < 4294967296 := Nat.div_lt_of_lt_mul hP
      obtain ⟨hi, hhi'⟩ : ∃ hi, P / 18446744073709551616 = hi := ⟨_, rfl⟩
      obtain ⟨lo, hlo'⟩ : ∃ lo, P % 18446744073709551616 = lo := ⟨_, rfl⟩
      rw [hhi', hlo'] at C hdm
      rw [hlo'] at hlt
      rw [hhi'] at hhi
      have hPe : P = hi * 18446744073709551616 + lo := by omega
      unfold scaleN
      by_cases h75 : 1075 ≤ floatE b
      · rw [if_pos h75, hPe]
        exact gen_up b (floatE b) (floatM b) m' hi lo (floatS b) w b0 b1 rfl a1 a2 om hmne h75 (by omega) hlt hhi (by omega) C
      · rw [if_neg h75, hPe]
        exact gen_down b (floatE b) (floatM b) m' hi lo (floatS b) w b0 b1 rfl a1 a2 om (by omega) (by omega) hlt hhi C
end Go.Proofs.YtjmljepndicdmaaDoor
