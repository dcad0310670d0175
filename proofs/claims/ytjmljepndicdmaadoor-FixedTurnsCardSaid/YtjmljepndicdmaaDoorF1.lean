import Derived.Test.YtjmljepndicdmaaDoorC4
set_option linter.unusedVariables false
set_option linter.unusedSimpArgs false
namespace Go.Proofs.YtjmljepndicdmaaDoor
open Go.RowKit

set_option maxRecDepth 100000 in
set_option maxHeartbeats 1000000 in
theorem float_nan (b m : Int) (mns : Bool) (w : World) (b0 : 0 ≤ b) (b1 : b < 18446744073709551616) (e1 : (b / 9223372036854775808 == 1) = mns)
    (e2 : bits .and .u64 (b / 4503599627370496) 2047 = 2047) (e3 : bits .and .u64 b 4503599627370495 = m) (hm : m ≠ 0) (hm' : (m != 0) = true) :
    Calls Tryd.prog 25 #[.int .u64 b] w fun e w' => e = .returned (.tuple #[.int .i64 0, .int .i64 1]) ∧ w = w' := by
  go_enter Tryd.func25, Tryd.ntmps25
  go_wp2_with fail
  go_ret2
  exact ⟨rfl, rfl⟩

set_option maxRecDepth 100000 in
set_option maxHeartbeats 1000000 in
theorem float_inf (b : Int) (mns : Bool) (w : World) (b0 : 0 ≤ b) (b1 : b < 18446744073709551616) (e1 : (b / 9223372036854775808 == 1) = mns)
    (e2 : bits .and .u64 (b / 4503599627370496) 2047 = 2047) (e3 : bits .and .u64 b 4503599627370495 = 0) :
    Calls Tryd.prog 25 #[.int .u64 b] w fun e w' => e = .returned (.tuple #[.int .i64 (sgnF 0 mns true), .int .i64 0]) ∧ w = w' := by
  go_enter Tryd.func25, Tryd.ntmps25
  go_wp2_with (go_at_call 38; refine (signed_any _ _ _ _ (by omega) (by omega)).mono ?_; rintro e w' ⟨rfl, rfl⟩)
  go_ret2
  exact ⟨rfl, rfl⟩

theorem signed_same (q : Int) (minus over : Bool) (w : World) (h0 : 0 ≤ q) (h1 : q < 18446744073709551616) :
    Calls Tryd.prog 38 #[.int .u64 q, .bool minus, .bool over] w fun e w' => e = .returned (.int .i64 (sgnF q minus over)) ∧ w' = w :=
  (signed_any q minus over w h0 h1).mono fun e w' ⟨h, h'⟩ => ⟨h, h'.symm⟩

set_option maxRecDepth 100000 in
set_option maxHeartbeats 1000000 in
theorem float_up_a (b e m m' hi lo : Int) (mns : Bool) (w : World) (b0 : 0 ≤ b) (b1 : b < 18446744073709551616) (e1 : (b / 9223372036854775808 == 1) = mns)
    (e2 : bits .and .u64 (b / 4503599627370496) 2047 = e) (e3 : bits .and .u64 b 4503599627370495 = m)
    (he0 : 1075 ≤ e) (he : e < 2047) (e4 : bits .or .u64 m 4503599627370496 = m') (hm' : (m' != 0) = true) (left : Nat) (e5 : e - 1075 = left) (HM : Hid (∀ W, Calls Tryd.prog 43 #[.int .u64 m', .int .u64 1000000] W fun e w' => e = .returned (.tuple #[.int .u64 hi, .int .u64 lo]) ∧ w' = W))
    (hi0 : 0 ≤ hi) (hi1 : hi < 18446744073709551616) (lo0 : 0 ≤ lo) (lo1 : lo < 18446744073709551616)
    (lz : Int) (HL : Hid (∀ W, Calls Tryd.prog 44 #[.int .u64 lo] W fun e w' => e = .returned (.int .i64 lz) ∧ w' = W)) (hz : hi = 0) (sh : Int) (e6 : IntKind.u64.wrap (lo * 2 ^ (min (left : Int) 63).toNat) = sh) (s0 : 0 ≤ sh) (s1 : sh < 18446744073709551616)
    (ov : Bool) (e7 : decide (lz ≤ (left : Int)) = ov) :
    Calls Tryd.prog 25 #[.int .u64 b] w fun e w' => e = .returned (.tuple #[.int .i64 (sgnF sh mns ov), .int .i64 0]) ∧ w = w' := by
  subst hz
  go_enter Tryd.func25, Tryd.ntmps25
  go_wp2_with fail
  refine (HM.out _).mono ?_; rintro e' w2 ⟨rfl, rfl⟩
  go_wp2_with fail
  refine (HL.out _).mono ?_; rintro e' w2 ⟨rfl, rfl⟩
  go_wp2_with (go_at_call 38; refine (signed_any _ _ _ _ (by omega) (by omega)).mono ?_; rintro e w' ⟨rfl, rfl⟩)
  go_ret2
  exact ⟨rfl, rfl⟩

set_option maxRecDepth 100000 in
set_option maxHeartbeats 1000000 in
theorem float_up_b (b e m m' hi lo : Int) (mns : Bool) (w : World) (b0 : 0 ≤ b) (b1 : b < 18446744073709551616) (e1 : (b / 9223372036854775808 == 1) = mns)
    (e2 : bits .and .u64 (b / 4503599627370496) 2047 = e) (e3 : bits .and .u64 b 4503599627370495 = m)
    (he0 : 1075 ≤ e) (he : e < 2047) (e4 : bits .or .u64 m 4503599627370496 = m') (hm' : (m' != 0) = true) (left : Nat) (e5 : e - 1075 = left) (HM : Hid (∀ W, Calls Tryd.prog 43 #[.int .u64 m', .int .u64 1000000] W fun e w' => e = .returned (.tuple #[.int .u64 hi, .int .u64 lo]) ∧ w' = W))
    (hi0 : 0 ≤ hi) (hi1 : hi < 18446744073709551616) (lo0 : 0 ≤ lo) (lo1 : lo < 18446744073709551616)
    (hz : (hi != 0) = true) (sh : Int) (e6 : IntKind.u64.wrap (lo * 2 ^ (min (left : Int) 63).toNat) = sh) (s0 : 0 ≤ sh) (s1 : sh < 18446744073709551616) :
    Calls Tryd.prog 25 #[.int .u64 b] w fun e w' => e = .returned (.tuple #[.int .i64 (sgnF sh mns true), .int .i64 0]) ∧ w = w' := by
  go_enter Tryd.func25, Tryd.ntmps25
  go_wp2_with fail
  refine (HM.out _).mono ?_; rintro e' w2 ⟨rfl, rfl⟩
  go_wp2_with (go_at_call 38; refine (signed_any _ _ _ _ (by omega) (by omega)).mono ?_; rintro e w' ⟨rfl, rfl⟩)
  go_ret2
  exact ⟨rfl, rfl⟩

set_option maxRecDepth 100000 in
set_option maxHeartbeats 1000000 in
theorem float_down_0 (b e m m' hi lo : Int) (mns : Bool) (w : World) (b0 : 0 ≤ b) (b1 : b < 18446744073709551616) (e1 : (b / 9223372036854775808 == 1) = mns)
    (e2 : bits .and .u64 (b / 4503599627370496) 2047 = e) (e3 : bits .and .u64 b 4503599627370495 = m)
    (right : Nat) (he0 : 0 < e) (he : e < 1075) (e4 : bits .or .u64 m 4503599627370496 = m') (e5 : 1075 - e = right) (HM : Hid (∀ W, Calls Tryd.prog 43 #[.int .u64 m', .int .u64 1000000] W fun e w' => e = .returned (.tuple #[.int .u64 hi, .int .u64 lo]) ∧ w' = W))
    (hi0 : 0 ≤ hi) (hi1 : hi < 18446744073709551616) (lo0 : 0 ≤ lo) (lo1 : lo < 18446744073709551616) (hr : 128 ≤ right) :
    Calls Tryd.prog 25 #[.int .u64 b] w fun e w' => e = .returned (.tuple #[.int .i64 0, .int .i64 0]) ∧ w = w' := by
  go_enter Tryd.func25, Tryd.ntmps25
  go_wp2_with fail
  refine (HM.out _).mono ?_; rintro e' w2 ⟨rfl, rfl⟩
  go_wp2_with fail
  go_ret2
  exact ⟨rfl, rfl⟩

set_option maxRecDepth 100000 in
set_option maxHeartbeats 1000000 in
theorem float_down_0_z (b e m m' hi lo : Int) (mns : Bool) (w : World) (b0 : 0 ≤ b) (b1 : b < 18446744073709551616) (e1 : (b / 9223372036854775808 == 1) = mns)
    (e2 : bits .and .u64 (b / 4503599627370496) 2047 = 0) (e3 : bits .and .u64 b 4503599627370495 = m)
    (right : Nat) (e4 : m = m') (e5 : e = 1) (e6 : (right : Int) = 1074) (HM : Hid (∀ W, Calls Tryd.prog 43 #[.int .u64 m', .int .u64 1000000] W fun e w' => e = .returned (.tuple #[.int .u64 hi, .int .u64 lo]) ∧ w' = W))
    (hi0 : 0 ≤ hi) (hi1 : hi < 18446744073709551616) (lo0 : 0 ≤ lo) (lo1 : lo < 18446744073709551616) (hr : 128 ≤ right) :
    Calls Tryd.prog 25 #[.int .u64 b] w fun e w' => e = .returned (.tuple #[.int .i64 0, .int .i64 0]) ∧ w = w' := by
  subst e4
  go_enter Tryd.func25, Tryd.ntmps25
  go_wp2_with fail
  refine (HM.out _).mono ?_; rintro e' w2 ⟨rfl, rfl⟩
  go_wp2_with fail
  go_ret2
  exact ⟨rfl, rfl⟩

set_option maxRecDepth 100000 in
set_option maxHeartbeats 1000000 in
theorem float_down_1 (b e m m' hi lo : Int) (mns : Bool) (w : World) (b0 : 0 ≤ b) (b1 : b < 18446744073709551616) (e1 : (b / 9223372036854775808 == 1) = mns)
    (e2 : bits .and .u64 (b / 4503599627370496) 2047 = e) (e3 : bits .and .u64 b 4503599627370495 = m)
    (right : Nat) (he0 : 0 < e) (he : e < 1075) (e4 : bits .or .u64 m 4503599627370496 = m') (e5 : 1075 - e = right) (HM : Hid (∀ W, Calls Tryd.prog 43 #[.int .u64 m', .int .u64 1000000] W fun e w' => e = .returned (.tuple #[.int .u64 hi, .int .u64 lo]) ∧ w' = W))
    (hi0 : 0 ≤ hi) (hi1 : hi < 18446744073709551616) (lo0 : 0 ≤ lo) (lo1 : lo < 18446744073709551616) (hr : 64 ≤ right) (hr' : right < 128) (r2 : Nat) (e6 : (right : Int) - 64 = r2) (sh : Int) (e7 : hi / 2 ^ r2 = sh) (s0 : 0 ≤ sh) (s1 : sh < 18446744073709551616) :
    Calls Tryd.prog 25 #[.int .u64 b] w fun e w' => e = .returned (.tuple #[.int .i64 (sgnF sh mns false), .int .i64 0]) ∧ w = w' := by
  go_enter Tryd.func25, Tryd.ntmps25
  go_wp2_with fail
  refine (HM.out _).mono ?_; rintro e' w2 ⟨rfl, rfl⟩
  go_wp2_with (go_at_call 38; refine (signed_any _ _ _ _ (by omega) (by omega)).mono ?_; rintro e w' ⟨rfl, rfl⟩)
  go_ret2
  exact ⟨rfl, rfl⟩

set_option maxRecDepth 100000 in
set_option maxHeartbeats 1000000 in
theorem float_down_2 (b e m m' hi lo : Int) (mns : Bool) (w : World) (b0 : 0 ≤ b) (b1 : b < 18446744073709551616) (e1 : (b / 9223372036854775808 == 1) = mns)
    (e2 : bits .and .u64 (b / 4503599627370496) 2047 = e) (e3 : bits .and .u64 b 4503599627370495 = m)
    (right : Nat) (he0 : 0 < e) (he : e < 1075) (e4 : bits .or .u64 m 4503599627370496 = m') (e5 : 1075 - e = right) (HM : Hid (∀ W, Calls Tryd.prog 43 #[.int .u64 m', .int .u64 1000000] W fun e w' => e = .returned (.tuple #[.int .u64 hi, .int .u64 lo]) ∧ w' = W))
    (hi0 : 0 ≤ hi) (hi1 : hi < 18446744073709551616) (lo0 : 0 ≤ lo) (lo1 : lo < 18446744073709551616) (hr : 1 ≤ right) (hr' : right < 64) (r2 : Nat) (e6 : (64 : Int) - right = r2) (e8 : min right 64 = right) (e9 : min r2 64 = r2) (sh : Int) (e7 : bits .or .u64 (lo / 2 ^ right) (IntKind.u64.wrap (hi * 2 ^ r2)) = sh) (s0 : 0 ≤ sh) (s1 : sh < 18446744073709551616) (ov : Bool) (e10 : (hi / 2 ^ right != 0) = ov) :
    Calls Tryd.prog 25 #[.int .u64 b] w fun e w' => e = .returned (.tuple #[.int .i64 (sgnF sh mns ov), .int .i64 0]) ∧ ∃ n, w' = w.drewN n := by
  go_enter Tryd.func25, Tryd.ntmps25
  go_wp2_with fail
  refine (HM.out _).mono ?_; rintro e' w2 ⟨rfl, rfl⟩
  go_wp2_with fail
  go_quiet ((go_at_call 38; exact Calls.quiet_of_same (signed_same sh mns ov _ s0 s1)))
  go_wp2_with fail
  go_ret2
  exact ⟨rfl, _, rfl⟩

end Go.Proofs.YtjmljepndicdmaaDoor
