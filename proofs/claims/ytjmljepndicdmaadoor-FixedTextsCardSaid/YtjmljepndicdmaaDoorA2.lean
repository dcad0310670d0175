import Derived.Test.YtjmljepndicdmaaDoorA1
set_option linter.unusedVariables false
set_option linter.unusedSimpArgs false
namespace Go.Proofs.YtjmljepndicdmaaDoor
open Go.RowKit

/-- The sum of two taken numbers, as the machine wraps it: the three cases of the code's own tests. -/
theorem add_cases (x y : Int) (hx : -9223372036854775807 ≤ x ∧ x ≤ 9223372036854775807) (hy : -9223372036854775807 ≤ y ∧ y ≤ 9223372036854775807) :
    (0 < x ∧ 0 < y ∧ wrap64 (x + y) < 0 ∧ sat (x + y) = 9223372036854775807) ∨
    (x < 0 ∧ y < 0 ∧ 0 ≤ wrap64 (x + y) ∧ sat (x + y) = -9223372036854775807) ∨
    (x < 0 ∧ y < 0 ∧ wrap64 (x + y) < -9223372036854775807 ∧ sat (x + y) = -9223372036854775807) ∨
    (-9223372036854775807 ≤ x + y ∧ x + y ≤ 9223372036854775807 ∧ sat (x + y) = x + y) := by
  by_cases h1 : 9223372036854775807 < x + y
  · exact .inl ⟨by omega, by omega, by unfold wrap64; omega, sat_hi _ h1⟩
  · by_cases h2 : x + y < -9223372036854775807
    · by_cases h3 : x + y = -9223372036854775808
      · exact .inr (.inr (.inl ⟨by omega, by omega, by unfold wrap64; omega, sat_lo _ h2⟩))
      · exact .inr (.inl ⟨by omega, by omega, by unfold wrap64; omega, sat_lo _ h2⟩)
    · exact .inr (.inr (.inr ⟨by omega, by omega, sat_id _ (by omega) (by omega)⟩))

set_option maxHeartbeats 400000 in
theorem add_any (a b : Int) (w : World) (h0 : -9223372036854775808 ≤ a) (h1 : a ≤ 9223372036854775807) (k0 : -9223372036854775808 ≤ b) (k1 : b ≤ 9223372036854775807) :
    Calls Tryd.prog 12 #[.int .i64 a, .int .i64 b] w fun e w' => e = .returned (.int .i64 (addF a b)) ∧ w = w' := by
  have hb := nrm_bd a h1
  have kb := nrm_bd b k1
  rcases add_cases _ _ hb kb with ⟨c1, c2, c3, c4⟩ | ⟨c1, c2, c3, c4⟩ | ⟨c1, c2, c3, c4⟩ | ⟨c1, c2, c4⟩
  all_goals
    have H := Lib.hid c4
    clear c4
    go_enter Tryd.func12, Tryd.ntmps12
    go_wp2_with (go_at_call 39; refine (taken_any _ _ (by omega) (by omega)).mono ?_; rintro e w' ⟨rfl, rfl⟩)
    all_goals go_ret
    all_goals exact ⟨ret_i64 (by unfold addF; rw [H.out]), rfl⟩

set_option maxHeartbeats 400000 in
theorem sub_any (a b : Int) (w : World) (h0 : -9223372036854775808 ≤ a) (h1 : a ≤ 9223372036854775807) (k0 : -9223372036854775808 ≤ b) (k1 : b ≤ 9223372036854775807) :
    Calls Tryd.prog 16 #[.int .i64 a, .int .i64 b] w fun e w' => e = .returned (.int .i64 (addF a (negF b))) ∧ w = w' := by
  have kb := negF_bd b k1
  have kk : -9223372036854775808 ≤ negF b := by omega
  go_enter Tryd.func16, Tryd.ntmps16
  go_wp2_with (first | (go_at_call 18; refine (neg_any _ _ (by omega) (by omega)).mono ?_; rintro e w' ⟨rfl, rfl⟩) | (go_at_call 12; refine (add_any _ _ _ (by omega) (by omega) (by omega) (by omega)).mono ?_; rintro e w' ⟨rfl, rfl⟩))
  go_ret
  exact ⟨rfl, rfl⟩

set_option maxHeartbeats 400000 in
theorem refAdd_any (a b : Int) (w : World) (h0 : -9223372036854775808 ≤ a) (h1 : a ≤ 9223372036854775807) (k0 : -9223372036854775808 ≤ b) (k1 : b ≤ 9223372036854775807) :
    Calls Tryd.prog 15 #[.int .i64 a, .int .i64 b] w fun e w' => e = .returned (.int .i64 (addF a b)) ∧ w = w' := by
  have hb := nrm_bd a h1
  have kb := nrm_bd b k1
  go_enter Tryd.func15, Tryd.ntmps15
  go_wp2_with (go_at_call 20; refine (norm_any _ _ (by omega) (by omega)).mono ?_; rintro e w' ⟨rfl, rfl⟩)
  all_goals go_ret
  all_goals exact ⟨ret_i64 (by unfold addF sat; (repeat' split) <;> omega), rfl⟩

set_option maxHeartbeats 400000 in
theorem size_any (a : Int) (w : World) (h0 : -9223372036854775808 ≤ a) (h1 : a ≤ 9223372036854775807) :
    Calls Tryd.prog 37 #[.int .i64 a] w fun e w' => e = .returned (.int .u64 (absF a)) ∧ w = w' := by
  have hb := absF_bd a h1
  go_enter Tryd.func37, Tryd.ntmps37
  go_wp2_with (go_at_call 13; refine (abs_any _ _ (by omega) (by omega)).mono ?_; rintro e w' ⟨rfl, rfl⟩)
  go_ret
  exact ⟨rfl, rfl⟩

set_option maxHeartbeats 400000 in
theorem signed_any (q : Int) (minus over : Bool) (w : World) (h0 : 0 ≤ q) (h1 : q < 18446744073709551616) :
    Calls Tryd.prog 38 #[.int .u64 q, .bool minus, .bool over] w fun e w' => e = .returned (.int .i64 (sgnF q minus over)) ∧ w = w' := by
  by_cases hq : q < 9223372036854775807
  all_goals cases minus
  all_goals cases over
  all_goals go_enter Tryd.func38, Tryd.ntmps38
  all_goals go_wp2
  all_goals go_ret
  all_goals exact ⟨ret_i64 (by first | (simp [sgnF, hq]; done) | (simp [sgnF]; omega)), rfl⟩

end Go.Proofs.YtjmljepndicdmaaDoor
