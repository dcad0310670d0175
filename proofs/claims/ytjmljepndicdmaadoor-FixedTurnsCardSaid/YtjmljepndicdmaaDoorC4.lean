import Derived.Test.YtjmljepndicdmaaDoorC3
import Derived.Test.YtjmljepndicdmaaDoorA6
set_option linter.unusedVariables false
set_option linter.unusedSimpArgs false
namespace Go.Proofs.YtjmljepndicdmaaDoor
open Go.RowKit

theorem szF_sgn (a b c : Nat) (m : Bool) : szF (a * b / c) m = sgnF (scQ a b c) m (scO a b c) := by
  unfold szF sgnF scQ scO
  generalize a * b / c = n
  by_cases h : 18446744073709551616 ≤ n
  · cases m <;> simp [h] <;> omega
  · cases m <;> simp [h] <;> (repeat' split) <;> omega

/-- The three calls of the references' products and quotients, one behind the other. -/
theorem chain3 (a b c : Int) (m : Bool) (ha0 : 0 ≤ a) (ha : a ≤ 9223372036854775807) (hb0 : 0 ≤ b) (hb : b ≤ 9223372036854775807) (hc0 : 0 < c) (hc : c ≤ 9223372036854775807) :
    ∃ V1 V2 : Value, Hid (∀ w, Calls Tryd.prog 42 #[.int .u64 a, .int .u64 b] w fun e w' => e = .returned V1 ∧ Below w.heap.size w w') ∧
      Hid (∀ w, Calls Tryd.prog 41 #[V1, .int .u64 c] w fun e w' => e = .returned V2 ∧ Below w.heap.size w w') ∧
      Hid (∀ w, Calls Tryd.prog 40 #[V2, .bool m] w fun e w' => e = .returned (.int .i64 (sgnF (scQ a.toNat b.toNat c.toNat) m (scO a.toNat b.toNat c.toNat))) ∧ Below w.heap.size w w') := by
  obtain ⟨a, rfl⟩ := Int.eq_ofNat_of_zero_le ha0
  obtain ⟨b, rfl⟩ := Int.eq_ofNat_of_zero_le hb0
  obtain ⟨c, rfl⟩ := Int.eq_ofNat_of_zero_le (Int.le_of_lt hc0)
  simp only [Int.toNat_natCast]
  have hab : a * b < 2 ^ 128 := by
    have h := Nat.mul_le_mul (show a ≤ 9223372036854775807 by omega) (show b ≤ 9223372036854775807 by omega)
    generalize a * b = z at *
    omega
  have hq : a * b / c < 2 ^ 128 := Nat.lt_of_le_of_lt (Nat.div_le_self _ _) hab
  refine ⟨.agg (arr (a * b)), .agg (arr (a * b / c)), Lib.hid fun w => times_arr a b w (by omega) (by omega), Lib.hid fun w => over_arr _ c w hab (by omega) (by omega), Lib.hid fun w => ?_⟩
  rw [← szF_sgn]
  exact sized_arr _ m w hq

set_option maxHeartbeats 1000000 in
theorem refMul_any (a b : Int) (w : World) (h0 : -9223372036854775808 ≤ a) (h1 : a ≤ 9223372036854775807) (k0 : -9223372036854775808 ≤ b) (k1 : b ≤ 9223372036854775807) :
    Calls Tryd.prog 21 #[.int .i64 a, .int .i64 b] w fun e w' => e = .returned (.int .i64 (mulF a b)) ∧ Below w.heap.size w w' := by
  have hb := absF_bd a h1
  have kb := absF_bd b k1
  obtain ⟨V1, V2, H1, H2, H3⟩ := chain3 (absF a) (absF b) 1000000 (decide (a < 0) != decide (b < 0)) hb.1 hb.2 kb.1 kb.2 (by omega) (by omega)
  have fin : Hid (mulF a b = sgnF (scQ (absF a).toNat (absF b).toNat (1000000 : Int).toNat) (decide (a < 0) != decide (b < 0)) (scO (absF a).toNat (absF b).toNat (1000000 : Int).toNat)) := Lib.hid rfl
  generalize sgnF (scQ (absF a).toNat (absF b).toNat (1000000 : Int).toNat) (decide (a < 0) != decide (b < 0)) (scO (absF a).toNat (absF b).toNat (1000000 : Int).toNat) = r at *
  go_enter Tryd.func21, Tryd.ntmps21
  go_wp2_with fail
  refine (refAbs_any a _ h0 h1).mono ?_; rintro e w1 ⟨rfl, rfl⟩
  go_wp2_with fail
  refine (refAbs_any b _ k0 k1).mono ?_; rintro e w1 ⟨rfl, rfl⟩
  go_wp2_with fail
  refine (H1.out _).mono ?_; rintro e w1 ⟨rfl, hb1⟩
  go_wp2_with fail
  refine (H2.out _).mono ?_; rintro e w2 ⟨rfl, hb2⟩
  go_wp2_with fail
  refine (H3.out _).mono ?_; rintro e w3 ⟨rfl, hb3⟩
  go_wp2_with fail
  go_ret
  exact ⟨ret_i64 fin.out.symm, (hb1.trans (hb2.mono hb1.size)).trans (hb3.mono (Nat.le_trans hb1.size hb2.size))⟩

set_option maxHeartbeats 1000000 in
theorem refDiv_zero (a : Int) (w : World) :
    Calls Tryd.prog 14 #[.int .i64 a, .int .i64 0] w fun e w' => e = .returned (.tuple #[.int .i64 0, .int .i64 20]) ∧ w = w' := by
  go_enter Tryd.func14, Tryd.ntmps14
  go_wp2_with fail
  go_ret2
  exact ⟨rfl, rfl⟩

set_option maxHeartbeats 1000000 in
theorem refDiv_any (a b : Int) (w : World) (h0 : -9223372036854775808 ≤ a) (h1 : a ≤ 9223372036854775807) (k0 : -9223372036854775808 ≤ b) (k1 : b ≤ 9223372036854775807) (hz : b ≠ 0) :
    Calls Tryd.prog 14 #[.int .i64 a, .int .i64 b] w fun e w' => e = .returned (.tuple #[.int .i64 (divF a b), .int .i64 0]) ∧ Below w.heap.size w w' := by
  have hb := absF_bd a h1
  have kb := absF_bd b k1
  have kz : 0 < absF b := by unfold absF nrm; repeat' split
                             all_goals omega
  have hz' : (b == 0) = false := by simp; omega
  obtain ⟨V1, V2, H1, H2, H3⟩ := chain3 (absF a) 1000000 (absF b) (decide (a < 0) != decide (b < 0)) hb.1 hb.2 (by omega) (by omega) kz kb.2
  have fin : Hid (divF a b = sgnF (scQ (absF a).toNat (1000000 : Int).toNat (absF b).toNat) (decide (a < 0) != decide (b < 0)) (scO (absF a).toNat (1000000 : Int).toNat (absF b).toNat)) := Lib.hid rfl
  generalize sgnF (scQ (absF a).toNat (1000000 : Int).toNat (absF b).toNat) (decide (a < 0) != decide (b < 0)) (scO (absF a).toNat (1000000 : Int).toNat (absF b).toNat) = r at *
  clear hz
  go_enter Tryd.func14, Tryd.ntmps14
  go_wp2_with fail
  refine (refAbs_any a _ h0 h1).mono ?_; rintro e w1 ⟨rfl, rfl⟩
  go_wp2_with fail
  refine (H1.out _).mono ?_; rintro e w1 ⟨rfl, hb1⟩
  go_wp2_with fail
  refine (refAbs_any b _ k0 k1).mono ?_; rintro e w2 ⟨rfl, rfl⟩
  go_wp2_with fail
  refine (H2.out _).mono ?_; rintro e w2 ⟨rfl, hb2⟩
  go_wp2_with fail
  refine (H3.out _).mono ?_; rintro e w3 ⟨rfl, hb3⟩
  go_wp2_with fail
  go_ret2
  exact ⟨tuple2 (by rw [fin.out]; rfl) rfl, (hb1.trans (hb2.mono hb1.size)).trans (hb3.mono (Nat.le_trans hb1.size hb2.size))⟩

theorem chain2 (a b : Int) (m : Bool) (ha0 : 0 ≤ a) (ha : a ≤ 9223372036854775807) (hb0 : 0 ≤ b) (hb : b ≤ 9223372036854775807) :
    ∃ V1 : Value, Hid (∀ w, Calls Tryd.prog 42 #[.int .u64 a, .int .u64 b] w fun e w' => e = .returned V1 ∧ Below w.heap.size w w') ∧
      Hid (∀ w, Calls Tryd.prog 40 #[V1, .bool m] w fun e w' => e = .returned (.int .i64 (szF (a.toNat * b.toNat) m)) ∧ Below w.heap.size w w') := by
  obtain ⟨a, rfl⟩ := Int.eq_ofNat_of_zero_le ha0
  obtain ⟨b, rfl⟩ := Int.eq_ofNat_of_zero_le hb0
  simp only [Int.toNat_natCast]
  have hab : a * b < 2 ^ 128 := by
    have h := Nat.mul_le_mul (show a ≤ 9223372036854775807 by omega) (show b ≤ 9223372036854775807 by omega)
    generalize a * b = z at *
    omega
  exact ⟨.agg (arr (a * b)), Lib.hid fun w => times_arr a b w (by omega) (by omega), Lib.hid fun w => sized_arr _ m w hab⟩

set_option maxHeartbeats 1000000 in
theorem refOf_any (a : Int) (w : World) (h0 : -9223372036854775808 ≤ a) (h1 : a ≤ 9223372036854775807) :
    Calls Tryd.prog 28 #[.int .i64 a] w fun e w' => e = .returned (.int .i64 (ofF a)) ∧ Below w.heap.size w w' := by
  have hn := nrm_bd a h1
  have hb := absF_bd a h1
  have hbn : absF (nrm a) = absF a := absF_nrm a
  have hneg : (decide (nrm a < 0)) = decide (a < 0) := by
    unfold nrm; split <;> simp <;> omega
  obtain ⟨V1, H1, H3⟩ := chain2 (absF a) 1000000 (decide (a < 0)) hb.1 hb.2 (by omega) (by omega)
  have fin : Hid (ofF a = szF ((absF a).toNat * (1000000 : Int).toNat) (decide (a < 0))) := Lib.hid (by
    unfold ofF
    rw [← szF_sgn, Nat.div_one]; rfl)
  generalize szF ((absF a).toNat * (1000000 : Int).toNat) (decide (a < 0)) = r at *
  have A1 := Lib.hid (fun W => refAbs_any (nrm a) W (by omega) (by omega))
  go_enter Tryd.func28, Tryd.ntmps28
  go_wp2_with fail
  refine (norm_any a _ h0 h1).mono ?_; rintro e w1 ⟨rfl, rfl⟩
  go_wp2_with fail
  refine (A1.out _).mono ?_; rintro e w1 ⟨rfl, rfl⟩
  go_wp2_with fail
  refine (H1.out _).mono ?_; rintro e w1 ⟨rfl, hb1⟩
  go_wp2_with fail
  refine (H3.out _).mono ?_; rintro e w3 ⟨rfl, hb3⟩
  go_wp2_with fail
  go_ret
  exact ⟨ret_i64 fin.out.symm, hb1.trans (hb3.mono hb1.size)⟩
end Go.Proofs.YtjmljepndicdmaaDoor
