import Derived.Test.YtjmljepndicdmaaDoorA5
set_option linter.unusedVariables false
set_option linter.unusedSimpArgs false
namespace Go.Proofs.YtjmljepndicdmaaDoor
open Go.RowKit

def mulF (a b : Int) : Int := sgnF (scQ (absF a).toNat (absF b).toNat 1000000) (decide (a < 0) != decide (b < 0)) (scO (absF a).toNat (absF b).toNat 1000000)
def divF (a b : Int) : Int := sgnF (scQ (absF a).toNat 1000000 (absF b).toNat) (decide (a < 0) != decide (b < 0)) (scO (absF a).toNat 1000000 (absF b).toNat)
def ofF (a : Int) : Int := sgnF (scQ (absF a).toNat 1000000 1) (decide (a < 0)) (scO (absF a).toNat 1000000 1)

/-- The contract of 'scaled' over whole numbers of any sign's kind. -/
theorem scaled_int (a b c : Int) (w : World) (ha0 : 0 ≤ a) (ha : a < 18446744073709551616) (hb0 : 0 ≤ b) (hb : b < 18446744073709551616) (hc : c < 18446744073709551616) (hc0 : 0 < c) :
    ∃ q : Int, 0 ≤ q ∧ q < 18446744073709551616 ∧ Hid (q = scQ a.toNat b.toNat c.toNat) ∧ Calls Tryd.prog 36 #[.int .u64 a, .int .u64 b, .int .u64 c] w fun e w' => e = .returned (.tuple #[.int .u64 q, .bool (scO a.toNat b.toNat c.toNat)]) ∧ ∃ n, w' = w.drewN n := by
  obtain ⟨a, rfl⟩ := Int.eq_ofNat_of_zero_le ha0
  obtain ⟨b, rfl⟩ := Int.eq_ofNat_of_zero_le hb0
  obtain ⟨c, rfl⟩ := Int.eq_ofNat_of_zero_le (Int.le_of_lt hc0)
  have := scQ_lt a b c
  refine ⟨_, by omega, by simp only [Int.toNat_natCast]; exact Int.ofNat_lt.2 (scQ_lt a b c), Lib.hid rfl, ?_⟩
  simp only [Int.toNat_natCast]
  exact scaled_any a b c w (by omega) (by omega) (by omega) (by omega)

set_option maxHeartbeats 400000 in
theorem mul_any (a b : Int) (w : World) (h0 : -9223372036854775808 ≤ a) (h1 : a ≤ 9223372036854775807) (k0 : -9223372036854775808 ≤ b) (k1 : b ≤ 9223372036854775807) :
    Calls Tryd.prog 9 #[.int .i64 a, .int .i64 b] w fun e w' => e = .returned (.int .i64 (mulF a b)) ∧ ∃ n, w' = w.drewN n := by
  have hb := absF_bd a h1
  have kb := absF_bd b k1
  obtain ⟨q, hq0, hq1, Q, C⟩ := scaled_int (absF a) (absF b) 1000000 w hb.1 (by omega) kb.1 (by omega) (by omega) (by omega)
  have fin : Hid (mulF a b = sgnF q (decide (a < 0) != decide (b < 0)) (scO (absF a).toNat (absF b).toNat (1000000 : Int).toNat)) := Lib.hid (by rw [Q.out]; rfl)
  generalize scO (absF a).toNat (absF b).toNat (1000000 : Int).toNat = o at *
  go_enter Tryd.func9, Tryd.ntmps9
  go_wp2_with (first | (go_at_call 37; refine (size_any _ _ (by omega) (by omega)).mono ?_; rintro e w' ⟨rfl, rfl⟩) | (go_at_call 36; refine C.mono ?_; rintro e w' ⟨rfl, n, rfl⟩) | (go_at_call 38; refine (signed_any _ _ _ _ (by omega) (by omega)).mono ?_; rintro e w' ⟨rfl, rfl⟩))
  go_ret
  exact ⟨ret_i64 fin.out.symm, _, rfl⟩

set_option maxHeartbeats 400000 in
theorem div_zero (a : Int) (w : World) :
    Calls Tryd.prog 10 #[.int .i64 a, .int .i64 0] w fun e w' => e = .returned (.tuple #[.int .i64 0, .int .i64 20]) ∧ w = w' := by
  go_enter Tryd.func10, Tryd.ntmps10
  go_wp2_with fail
  go_ret2
  exact ⟨rfl, rfl⟩

set_option maxHeartbeats 400000 in
theorem div_any (a b : Int) (w : World) (h0 : -9223372036854775808 ≤ a) (h1 : a ≤ 9223372036854775807) (k0 : -9223372036854775808 ≤ b) (k1 : b ≤ 9223372036854775807) (hz : b ≠ 0) :
    Calls Tryd.prog 10 #[.int .i64 a, .int .i64 b] w fun e w' => e = .returned (.tuple #[.int .i64 (divF a b), .int .i64 0]) ∧ ∃ n, w' = w.drewN n := by
  have hb := absF_bd a h1
  have kb := absF_bd b k1
  have kz : 0 < absF b := by unfold absF nrm; repeat' split
                             all_goals omega
  have hz' : (b == 0) = false := by simp; omega
  obtain ⟨q, hq0, hq1, Q, C⟩ := scaled_int (absF a) 1000000 (absF b) w hb.1 (by omega) (by omega) (by omega) (by omega) kz
  have fin : Hid (divF a b = sgnF q (decide (a < 0) != decide (b < 0)) (scO (absF a).toNat (1000000 : Int).toNat (absF b).toNat)) := Lib.hid (by rw [Q.out]; rfl)
  generalize scO (absF a).toNat (1000000 : Int).toNat (absF b).toNat = o at *
  clear hz
  go_enter Tryd.func10, Tryd.ntmps10
  go_wp2_with (first | (go_at_call 37; refine (size_any _ _ (by omega) (by omega)).mono ?_; rintro e w' ⟨rfl, rfl⟩) | (go_at_call 36; refine C.mono ?_; rintro e w' ⟨rfl, n, rfl⟩) | (go_at_call 38; refine (signed_any _ _ _ _ (by omega) (by omega)).mono ?_; rintro e w' ⟨rfl, rfl⟩))
  go_ret2
  exact ⟨tuple2 (by rw [fin.out]; rfl) rfl, _, rfl⟩

set_option maxHeartbeats 400000 in
theorem of_any (a : Int) (w : World) (h0 : -9223372036854775808 ≤ a) (h1 : a ≤ 9223372036854775807) :
    Calls Tryd.prog 27 #[.int .i64 a] w fun e w' => e = .returned (.int .i64 (ofF a)) ∧ ∃ n, w' = w.drewN n := by
  have hb := absF_bd a h1
  obtain ⟨q, hq0, hq1, Q, C⟩ := scaled_int (absF a) 1000000 1 w hb.1 (by omega) (by omega) (by omega) (by omega) (by omega)
  have fin : Hid (ofF a = sgnF q (decide (a < 0)) (scO (absF a).toNat (1000000 : Int).toNat (1 : Int).toNat)) := Lib.hid (by rw [Q.out]; rfl)
  generalize scO (absF a).toNat (1000000 : Int).toNat (1 : Int).toNat = o at *
  go_enter Tryd.func27, Tryd.ntmps27
  go_wp2_with (first | (go_at_call 37; refine (size_any _ _ (by omega) (by omega)).mono ?_; rintro e w' ⟨rfl, rfl⟩) | (go_at_call 36; refine C.mono ?_; rintro e w' ⟨rfl, n, rfl⟩) | (go_at_call 38; refine (signed_any _ _ _ _ (by omega) (by omega)).mono ?_; rintro e w' ⟨rfl, rfl⟩))
  go_ret
  exact ⟨ret_i64 fin.out.symm, _, rfl⟩
end Go.Proofs.YtjmljepndicdmaaDoor
