import Derived.Test.YtjmljepndicdmaaDoorA3
set_option linter.unusedVariables false
set_option linter.unusedSimpArgs false
namespace Go.Proofs.YtjmljepndicdmaaDoor
open Go.RowKit

theorem wraps_u64 (n : Int) (h₀ : 0 ≤ n) (h₁ : n < 2 ^ 64) : IntKind.u64.wrap n = n := by rw [IntKind.wrap_u64]; omega
theorem and32 (x : Int) (h₀ : 0 ≤ x) (h₁ : x < 18446744073709551616) : bits .and .u64 x 4294967295 = x % 4294967296 :=
  bits_mask .u64 64 (by decide) wraps_u64 32 (by decide) x h₀ (by omega)

theorem bitLen_bd (y : Nat) (h0 : y ≠ 0) (h : y < 18446744073709551616) : 1 ≤ Lib.bitLen y ∧ Lib.bitLen y ≤ 64 ∧ 2 ^ (Lib.bitLen y - 1) ≤ y ∧ y < 2 ^ Lib.bitLen y := by
  have h1 := Lib.bitLenAux_bounds 64 y h h0
  have h2 := Lib.bitLen_le y 64 (Nat.le_refl _) h
  exact ⟨h1.1, h2, h1.2.1, h1.2.2⟩

theorem mends (v n1 n0 u32 u1 : Nat) (hv : v = n1 * 4294967296 + n0) (h0 : n0 < 4294967296) (hu : u32 < v) (hu1 : u1 < 4294967296) :
    Mends (fun q r => 0 ≤ q ∧ 0 ≤ r ∧ KInv v n1 n0 u32 u1 q.toNat r.toNat) n1 n0 u1 ((u32 * 4294967296 + u1) / v : Nat) := by
  refine ⟨?_, ?_, ?_⟩
  · rintro q r ⟨hq, hr, K⟩ ht
    obtain ⟨q, rfl⟩ := Int.eq_ofNat_of_zero_le hq
    obtain ⟨r, rfl⟩ := Int.eq_ofNat_of_zero_le hr
    simp only [Int.toNat_natCast] at K
    have ht' : 4294967296 ≤ q ∨ r * 4294967296 + u1 < q * n0 := by
      rcases ht with ht | ht
      · left; omega
      · right
        rw [← Int.natCast_mul] at ht
        generalize q * n0 = z at *
        clear hv K hu hu1 h0
        omega
    have hg := KInv.gt v n1 n0 u32 u1 q r hv hu hu1 K ht'
    have hp := KInv.pos v u32 u1 q hg
    refine ⟨by omega, fun hb => ⟨by omega, by omega, ?_⟩, fun hb => ?_⟩
    · have := KInv.step v n1 n0 u32 u1 q r K hg (by omega)
      rw [show ((q : Int) - 1).toNat = q - 1 by omega, show ((r : Int) + n1).toNat = r + n1 by omega]
      exact this
    · have := KInv.out v n1 n0 u32 u1 q r hv h0 K hg (by omega)
      rw [← this]; omega
  · rintro q r ⟨hq, hr, K⟩ ht
    obtain ⟨q, rfl⟩ := Int.eq_ofNat_of_zero_le hq
    obtain ⟨r, rfl⟩ := Int.eq_ofNat_of_zero_le hr
    simp only [Int.toNat_natCast] at K
    have ht' : q * n0 ≤ r * 4294967296 + u1 := by
      rw [← Int.natCast_mul] at ht
      generalize q * n0 = z at *
      clear hv K hu hu1 h0
      omega
    exact congrArg Int.ofNat (KInv.le v n1 n0 u32 u1 q r hv K ht')
  · rintro q r ⟨hq, hr, K⟩
    have h1 := K.qle
    have h2 := K.rlt
    omega

theorem cast_sub_mul (u q n r : Nat) (h : q * n + r = u) (hu : u < 18446744073709551616) : IntKind.u64.wrap ((u : Int) - IntKind.u64.wrap ((q : Int) * n)) = r := by
  have e : (q : Int) * n = ((q * n : Nat) : Int) := by push_cast; rfl
  rw [e]
  generalize q * n = z at *
  rw [IntKind.wrap_u64, IntKind.wrap_u64]
  omega

theorem sub_mul_big (u u1 q v r : Nat) (h : u * 4294967296 + u1 = q * v + r) (hr : r < 18446744073709551616) :
    IntKind.u64.wrap (IntKind.u64.wrap (IntKind.u64.wrap ((u : Int) * 4294967296) + u1) - IntKind.u64.wrap ((q : Int) * v)) = r := by
  have e : (q : Int) * v = ((q * v : Nat) : Int) := by push_cast; rfl
  rw [e]
  generalize q * v = z at *
  simp only [IntKind.wrap_u64]
  omega

theorem tdiv_nat (a b : Nat) (h : a < 18446744073709551616) : IntKind.u64.wrap ((a : Int).tdiv b) = ((a / b : Nat) : Int) := by
  have e : (a : Int).tdiv b = ((a / b : Nat) : Int) := by
    rw [Int.tdiv_eq_ediv_of_nonneg (by omega)]; exact (Int.natCast_ediv a b).symm
  rw [e, IntKind.wrap_u64]
  have : a / b ≤ a := Nat.div_le_self a b
  generalize a / b = z at *
  omega

/-- The shifted numbers. -/
theorem shifted (hi lo y s : Nat) (hlo : lo < 2 ^ 64) (hs : s ≤ 63) (hh : hi < y) (hy : y < 2 ^ (64 - s)) :
    (hi * 2 ^ 64 + lo) * 2 ^ s / 2 ^ 64 = hi * 2 ^ s + lo / 2 ^ (64 - s) ∧ (hi * 2 ^ 64 + lo) * 2 ^ s % 2 ^ 64 = lo * 2 ^ s % 2 ^ 64 ∧
    hi * 2 ^ s + 2 ^ s ≤ 2 ^ 64 ∧ lo / 2 ^ (64 - s) < 2 ^ s ∧ y * 2 ^ s < 2 ^ 64 := by
  have hp : 2 ^ (64 - s) * 2 ^ s = 2 ^ 64 := by rw [← Nat.pow_add]; congr 1; omega
  have hps : 0 < 2 ^ s := Nat.two_pow_pos s
  have e : (hi * 2 ^ 64 + lo) * 2 ^ s = hi * 2 ^ s * 2 ^ 64 + lo * 2 ^ s := by
    rw [Nat.add_mul, Nat.mul_assoc, Nat.mul_comm (2 ^ 64), ← Nat.mul_assoc]
  have hdiv : lo * 2 ^ s / 2 ^ 64 = lo / 2 ^ (64 - s) := by
    rw [← hp]; exact Nat.mul_div_mul_right _ _ hps
  refine ⟨?_, ?_, ?_, ?_, ?_⟩
  · rw [e, Nat.mul_comm (hi * 2 ^ s), Nat.mul_add_div (by decide), hdiv]
  · rw [e, Nat.mul_comm (hi * 2 ^ s), Nat.mul_add_mod]
  · rw [← Nat.succ_mul, ← hp]
    exact Nat.mul_le_mul_right _ (by omega)
  · apply Nat.div_lt_of_lt_mul
    rw [hp]; exact hlo
  · rw [← hp]
    exact Nat.mul_lt_mul_of_pos_right hy hps

theorem cast_dig (a b : Nat) : (a : Int) * 4294967296 + b = ((a * 4294967296 + b : Nat) : Int) := by omega

set_option maxHeartbeats 1000000 in
theorem div64_hi (hi lo y : Nat) (w : World) (hlo : lo < 18446744073709551616) (hy : y < 18446744073709551616) (hh : hi < y) (h0 : hi ≠ 0) :
    Calls Tryd.prog 55 #[.int .u64 hi, .int .u64 lo, .int .u64 y] w fun e w' => e = .returned (.tuple #[.int .u64 ((hi * 18446744073709551616 + lo) / y : Nat), .int .u64 ((hi * 18446744073709551616 + lo) % y : Nat)]) ∧ w = w' := by
  obtain ⟨hL1, hL2, hL3, hL4⟩ := bitLen_bd y (by omega) hy
  obtain ⟨s, hs⟩ : ∃ s, s = 64 - Lib.bitLen y := ⟨_, rfl⟩
  have hs' : 64 - s = Lib.bitLen y := by omega
  have hs63 : s ≤ 63 := by omega
  obtain ⟨k1, k2, k3, k4, k5⟩ := shifted hi lo y s hlo hs63 hh (by rw [hs']; exact hL4)
  have hps : 0 < 2 ^ s := Nat.two_pow_pos s
  have hvlo : 2 ^ 63 ≤ y * 2 ^ s := by
    have : 2 ^ (Lib.bitLen y - 1) * 2 ^ s = 2 ^ 63 := by rw [← Nat.pow_add]; congr 1; omega
    rw [← this]; exact Nat.mul_le_mul_right _ hL3
  have hvpos : 0 < y * 2 ^ s := by omega
  obtain ⟨t1, t2⟩ := two_steps (y * 2 ^ s) ((hi * 2 ^ 64 + lo) * 2 ^ s) hvpos
  have hd : (hi * 2 ^ 64 + lo) * 2 ^ s / (y * 2 ^ s) = (hi * 2 ^ 64 + lo) / y := Nat.mul_div_mul_right _ _ hps
  have hm : (hi * 2 ^ 64 + lo) * 2 ^ s % (y * 2 ^ s) = (hi * 2 ^ 64 + lo) % y * 2 ^ s := Nat.mul_mod_mul_right _ _ _
  -- the digits
  generalize hU : (hi * 2 ^ 64 + lo) * 2 ^ s = U at *
  obtain ⟨u32, hu32⟩ : ∃ u32, u32 = U / 2 ^ 64 := ⟨_, rfl⟩
  obtain ⟨un10, hun10⟩ : ∃ un10, un10 = U % 2 ^ 64 := ⟨_, rfl⟩
  have hN : U / 4294967296 = u32 * 4294967296 + un10 / 4294967296 := by omega
  have hU0 : U % 4294967296 = un10 % 4294967296 := by omega
  have hult : u32 < y * 2 ^ s := by
    rw [hu32, k1]
    have : hi * 2 ^ s + 2 ^ s ≤ y * 2 ^ s := by rw [← Nat.succ_mul]; exact Nat.mul_le_mul_right _ hh
    omega
  have hy2 : (y : Int) * 2 ^ s = ((y * 2 ^ s : Nat) : Int) := by push_cast; rfl
  have hh2 : (hi : Int) * 2 ^ s = ((hi * 2 ^ s : Nat) : Int) := by push_cast; rfl
  have hl2 : (lo : Int) * 2 ^ s = ((lo * 2 ^ s : Nat) : Int) := by push_cast; rfl
  have hld : (lo : Int) / 2 ^ (64 - s) = ((lo / 2 ^ (64 - s) : Nat) : Int) := by push_cast; rfl
  have hor : bits .or .u64 (IntKind.u64.wrap ((hi : Int) * 2 ^ s)) ((lo : Int) / 2 ^ (64 - s)) = (u32 : Int) := by
    rw [hh2, hld, wraps_u64 _ (by omega) (by omega)]
    rw [bits_join .u64 64 (by decide) wraps_u64 s _ _ (Int.natCast_nonneg _) ?_ (by omega) (Int.natCast_nonneg _) ?_ ?_]
    · rw [hu32, k1]; push_cast; rfl
    · simp
    · have : ((lo / 2 ^ (64 - s) : Nat) : Int) < ((2 ^ s : Nat) : Int) := Int.ofNat_lt.2 k4
      rwa [Int.natCast_pow] at this
    · have h9 : lo / 2 ^ (64 - s) < 18446744073709551616 := by omega
      exact Int.ofNat_lt.2 h9
  generalize hv : y * 2 ^ s = v at *
  obtain ⟨u1, hu1⟩ : ∃ u1, un10 / 4294967296 = u1 := ⟨_, rfl⟩
  obtain ⟨u0, hu0⟩ : ∃ u0, un10 % 4294967296 = u0 := ⟨_, rfl⟩
  obtain ⟨n1, hn1⟩ : ∃ n1, v / 4294967296 = n1 := ⟨_, rfl⟩
  obtain ⟨n0, hn0⟩ : ∃ n0, v % 4294967296 = n0 := ⟨_, rfl⟩
  have b1 : u1 < 4294967296 := by omega
  have b2 : u0 < 4294967296 := by omega
  have b3 : n1 < 4294967296 := by omega
  have b4 : n0 < 4294967296 := by omega
  have b5 : 2147483648 ≤ n1 := by omega
  rw [hN, hU0, hu1, hu0] at t1 t2
  have hlt := Nat.mod_lt (u32 * 4294967296 + u1) hvpos
  have hq1 := kq_lt v u32 u1 hult b1
  have hdm1 := Nat.div_add_mod (u32 * 4294967296 + u1) v
  have hve : v = n1 * 4294967296 + n0 := by omega
  have M1 := mends v n1 n0 u32 u1 hve b4 hult b1
  have S1 := KInv.start v n1 n0 u32 u1 hve b5 b3 b4 hult b1
  obtain ⟨Q1, hQ1⟩ : ∃ Q1, (u32 * 4294967296 + u1) / v = Q1 := ⟨_, rfl⟩
  obtain ⟨u21, hu21⟩ : ∃ u21, (u32 * 4294967296 + u1) % v = u21 := ⟨_, rfl⟩
  rw [hQ1, hu21] at t1 hdm1
  rw [hu21] at t2 hlt
  rw [hQ1] at hq1 M1
  have hq0 := kq_lt v u21 u0 hlt b2
  have hlt2 := Nat.mod_lt (u21 * 4294967296 + u0) hvpos
  have hdm2 := Nat.div_add_mod (u21 * 4294967296 + u0) v
  have M2 := mends v n1 n0 u21 u0 hve b4 hlt b2
  have S2 := KInv.start v n1 n0 u21 u0 hve b5 b3 b4 hlt b2
  obtain ⟨Q0, hQ0⟩ : ∃ Q0, (u21 * 4294967296 + u0) / v = Q0 := ⟨_, rfl⟩
  obtain ⟨R0, hR0⟩ : ∃ R0, (u21 * 4294967296 + u0) % v = R0 := ⟨_, rfl⟩
  rw [hQ0, hR0] at hdm2
  rw [hQ0] at t1 hq0 M2
  rw [hR0] at t2 hlt2
  rw [Nat.mul_comm v] at hdm1 hdm2
  have hfin : ((hi * 18446744073709551616 + lo) / y : Nat) = Q1 * 4294967296 + Q0 := by rw [← t1, hd]
  have hrem : R0 / 2 ^ s = (hi * 18446744073709551616 + lo) % y := by
    rw [← t2, hm]; exact Nat.mul_div_cancel _ hps
  have hc1 : u32 / n1 * n1 + (u32 - u32 / n1 * n1) = u32 := by
    have := Nat.div_mul_le_self u32 n1; omega
  have hc2 : u21 / n1 * n1 + (u21 - u21 / n1 * n1) = u21 := by
    have := Nat.div_mul_le_self u21 n1; omega
  have main := div64_core hi lo y w hlo hy hh h0 s v n1 n0 (u32 : Int) (un10 : Int) (u1 : Int) (u0 : Int)
    ((u32 / n1 : Nat) : Int) (IntKind.u64.wrap (((u32 / n1 : Nat) : Int) * n1)) ((u32 - u32 / n1 * n1 : Nat) : Int) Q1 Q0 u21
    ((u21 / n1 : Nat) : Int) (IntKind.u64.wrap (((u21 / n1 : Nat) : Int) * n1)) ((u21 - u21 / n1 * n1 : Nat) : Int) R0 ((R0 / 2 ^ s : Nat) : Int)
    (IntKind.u64.wrap ((Q1 : Int) * v)) (IntKind.u64.wrap ((Q0 : Int) * v)) _ _
    hs63 (by omega) (by omega) (by omega) (by omega) (by omega) (by omega) (by omega) (by omega) (by omega) (by omega) (by omega) (by omega) (by omega) (by omega)
    (Lib.hid M1) (Lib.hid M2) (Lib.hid ⟨Int.natCast_nonneg _, Int.natCast_nonneg _, by rw [Int.toNat_natCast, Int.toNat_natCast]; exact S1⟩) (Lib.hid ⟨Int.natCast_nonneg _, Int.natCast_nonneg _, by rw [Int.toNat_natCast, Int.toNat_natCast]; exact S2⟩)
    (by omega) (by omega) (by rw [hy2]; exact wraps_u64 _ (by omega) (by omega)) (by omega) (by rw [and32 _ (by omega) (by omega)]; omega) hor
    (by rw [hl2, IntKind.wrap_u64, hun10, k2]; omega) (by omega) (by rw [and32 _ (by omega) (by omega)]; omega)
    (tdiv_nat _ _ (by omega)) rfl (cast_sub_mul _ _ _ _ hc1 (by omega)) rfl (sub_mul_big u32 _ Q1 v u21 hdm1.symm (by omega))
    (tdiv_nat _ _ (by omega)) rfl (cast_sub_mul _ _ _ _ hc2 (by omega)) rfl (sub_mul_big u21 _ Q0 v R0 hdm2.symm (by omega)) (by push_cast; rfl)
  rw [hfin, ← hrem]
  refine main.mono ?_
  rintro e w' ⟨rfl, rfl⟩
  exact ⟨by rw [cast_dig], rfl⟩
end Go.Proofs.YtjmljepndicdmaaDoor
