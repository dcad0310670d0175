import Derived.Test.YtjmljepndicdmaaDoorProg
import Derived.Test.YtjmljepndicdmaaDoorS0
import Derived.WalkKit
import Derived.Lib.Hide
import Derived.IntWalk
import Derived.WalkSpells
import Derived.WalkLawsBesides
set_option linter.unusedVariables false
set_option linter.unusedSimpArgs false
namespace Go.Proofs.YtjmljepndicdmaaDoor
open Go.RowKit

theorem ret_i64 {a b : Int} (h : a = b) : Ending.returned (.int .i64 a) = .returned (.int .i64 b) := by rw [h]

set_option maxHeartbeats 400000 in
theorem taken_any (a : Int) (w : World) (h0 : -9223372036854775808 ≤ a) (h1 : a ≤ 9223372036854775807) :
    Calls Tryd.prog 39 #[.int .i64 a] w fun e w' => e = .returned (.int .i64 (nrm a)) ∧ w = w' := by
  go_enter Tryd.func39, Tryd.ntmps39
  go_wp2
  all_goals go_ret
  all_goals exact ⟨ret_i64 (by unfold nrm; split <;> omega), rfl⟩

set_option maxHeartbeats 400000 in
theorem norm_any (a : Int) (w : World) (h0 : -9223372036854775808 ≤ a) (h1 : a ≤ 9223372036854775807) :
    Calls Tryd.prog 20 #[.int .i64 a] w fun e w' => e = .returned (.int .i64 (nrm a)) ∧ w = w' := by
  go_enter Tryd.func20, Tryd.ntmps20
  go_wp2
  all_goals go_ret
  all_goals exact ⟨ret_i64 (by unfold nrm; split <;> omega), rfl⟩

set_option maxHeartbeats 400000 in
theorem neg_any (a : Int) (w : World) (h0 : -9223372036854775808 ≤ a) (h1 : a ≤ 9223372036854775807) :
    Calls Tryd.prog 18 #[.int .i64 a] w fun e w' => e = .returned (.int .i64 (negF a)) ∧ w = w' := by
  have hb := nrm_bd a h1
  go_enter Tryd.func18, Tryd.ntmps18
  go_wp2_with (go_at_call 39; refine (taken_any _ _ (by omega) (by omega)).mono ?_; rintro e w' ⟨rfl, rfl⟩)
  go_ret
  exact ⟨rfl, rfl⟩

set_option maxHeartbeats 400000 in
theorem refNeg_any (a : Int) (w : World) (h0 : -9223372036854775808 ≤ a) (h1 : a ≤ 9223372036854775807) :
    Calls Tryd.prog 17 #[.int .i64 a] w fun e w' => e = .returned (.int .i64 (negF a)) ∧ w = w' := by
  have hb := nrm_bd a h1
  go_enter Tryd.func17, Tryd.ntmps17
  go_wp2_with (go_at_call 20; refine (norm_any _ _ (by omega) (by omega)).mono ?_; rintro e w' ⟨rfl, rfl⟩)
  go_ret
  exact ⟨rfl, rfl⟩

set_option maxHeartbeats 400000 in
theorem abs_any (a : Int) (w : World) (h0 : -9223372036854775808 ≤ a) (h1 : a ≤ 9223372036854775807) :
    Calls Tryd.prog 13 #[.int .i64 a] w fun e w' => e = .returned (.int .i64 (absF a)) ∧ w = w' := by
  have hb := nrm_bd a h1
  go_enter Tryd.func13, Tryd.ntmps13
  go_wp2_with (go_at_call 39; refine (taken_any _ _ (by omega) (by omega)).mono ?_; rintro e w' ⟨rfl, rfl⟩)
  all_goals go_ret
  all_goals exact ⟨ret_i64 (by unfold absF; split <;> omega), rfl⟩

set_option maxHeartbeats 400000 in
theorem refAbs_any (a : Int) (w : World) (h0 : -9223372036854775808 ≤ a) (h1 : a ≤ 9223372036854775807) :
    Calls Tryd.prog 19 #[.int .i64 a] w fun e w' => e = .returned (.int .i64 (absF a)) ∧ w = w' := by
  have hb := nrm_bd a h1
  go_enter Tryd.func19, Tryd.ntmps19
  go_wp2_with (go_at_call 17; refine (refNeg_any _ _ (by omega) (by omega)).mono ?_; rintro e w' ⟨rfl, rfl⟩)
  all_goals go_ret
  all_goals exact ⟨ret_i64 (by first | rw [absF_neg _ (by omega)] | rw [absF_nn _ (by omega)]), rfl⟩

set_option maxHeartbeats 400000 in
theorem cmp_any (a b : Int) (w : World) (h0 : -9223372036854775808 ≤ a) (h1 : a ≤ 9223372036854775807) (k0 : -9223372036854775808 ≤ b) (k1 : b ≤ 9223372036854775807) :
    Calls Tryd.prog 24 #[.int .i64 a, .int .i64 b] w fun e w' => e = .returned (.int .i64 (cmpF a b)) ∧ w = w' := by
  have hb := nrm_bd a h1
  have kb := nrm_bd b k1
  go_enter Tryd.func24, Tryd.ntmps24
  go_wp2_with (go_at_call 39; refine (taken_any _ _ (by omega) (by omega)).mono ?_; rintro e w' ⟨rfl, rfl⟩)
  all_goals go_ret
  all_goals exact ⟨ret_i64 (by unfold cmpF; (repeat' split) <;> omega), rfl⟩

set_option maxHeartbeats 400000 in
theorem refCmp_any (a b : Int) (w : World) (h0 : -9223372036854775808 ≤ a) (h1 : a ≤ 9223372036854775807) (k0 : -9223372036854775808 ≤ b) (k1 : b ≤ 9223372036854775807) :
    Calls Tryd.prog 31 #[.int .i64 a, .int .i64 b] w fun e w' => e = .returned (.int .i64 (cmpF a b)) ∧ w = w' := by
  have hb := nrm_bd a h1
  have kb := nrm_bd b k1
  go_enter Tryd.func31, Tryd.ntmps31
  go_wp2_with (go_at_call 20; refine (norm_any _ _ (by omega) (by omega)).mono ?_; rintro e w' ⟨rfl, rfl⟩)
  all_goals go_ret
  all_goals exact ⟨ret_i64 (by unfold cmpF; (repeat' split) <;> omega), rfl⟩

set_option maxHeartbeats 400000 in
theorem whole_any (a : Int) (w : World) (h0 : -9223372036854775808 ≤ a) (h1 : a ≤ 9223372036854775807) :
    Calls Tryd.prog 29 #[.int .i64 a] w fun e w' => e = .returned (.int .i64 ((nrm a).tdiv 1000000)) ∧ w = w' := by
  have hb := nrm_bd a h1
  have hq := tdiv_bd (nrm a) hb.1 hb.2
  go_enter Tryd.func29, Tryd.ntmps29
  go_wp2_with (go_at_call 39; refine (taken_any _ _ (by omega) (by omega)).mono ?_; rintro e w' ⟨rfl, rfl⟩)
  all_goals go_ret
  all_goals exact ⟨ret_i64 (by first | rfl | omega), rfl⟩

set_option maxHeartbeats 400000 in
theorem refWhole_any (a : Int) (w : World) (h0 : -9223372036854775808 ≤ a) (h1 : a ≤ 9223372036854775807) :
    Calls Tryd.prog 30 #[.int .i64 a] w fun e w' => e = .returned (.int .i64 ((nrm a).tdiv 1000000)) ∧ w = w' := by
  have hb := nrm_bd a h1
  have hq := tdiv_bd (nrm a) hb.1 hb.2
  go_enter Tryd.func30, Tryd.ntmps30
  go_wp2_with (go_at_call 20; refine (norm_any _ _ (by omega) (by omega)).mono ?_; rintro e w' ⟨rfl, rfl⟩)
  all_goals go_ret
  all_goals exact ⟨ret_i64 (by first | rfl | omega), rfl⟩
end Go.Proofs.YtjmljepndicdmaaDoor
