import Derived.Test.YtjmljepndicdmaaDoorK
import Derived.Test.YtjmljepndicdmaaDoorS5
set_option linter.unusedVariables false
set_option linter.unusedSimpArgs false
namespace Go.Proofs.YtjmljepndicdmaaDoor
open Go.RowKit

set_option maxRecDepth 100000 in
set_option maxHeartbeats 1000000 in
theorem signs_zero (a more : Int) (w : World) (he : Env w) (h0 : -9223372036854775808 ≤ a) (h1 : a ≤ 9223372036854775807) :
    Calls Tryd.prog 3 #[.int .i64 a, .int .i64 0, .int .i64 more] w fun e w' => e = .returned (.bool true) ∧ Below w.heap.size w w' := by
  obtain ⟨s1, s2⟩ := mulF_sign a 0
  have C := mul_any a 0 w h0 h1 (by omega) (by omega)
  generalize mulF a 0 = p at *
  by_cases ha : a < 0
  all_goals
    have ss1 : a < 0 → p ≤ 0 := fun h => s2 (by omega)
    have ss2 : ¬ a < 0 → 0 ≤ p := fun h => s1 (by omega)
    by_cases hp : 0 < p
    all_goals by_cases hp2 : p < 0
    all_goals (try (exfalso; omega))
    all_goals
      clear s1 s2 ss1 ss2
      go_enter Tryd.func3, Tryd.ntmps3
      go_wp2_with fail
      refine C.mono ?_; rintro e w1 ⟨rfl, n1, rfl⟩
      go_wp2_with fail
      refine (div_zero _ _).mono ?_; rintro e w2 ⟨rfl, rfl⟩
      go_wp2_with fail
      refine (known_any _ (env_drewN he _)).mono ?_; rintro e w3 ⟨rfl, hb⟩
      go_wp2_with fail
      go_ret
      exact ⟨rfl, below_of_drewN hb⟩

set_option maxRecDepth 100000 in
set_option maxHeartbeats 4000000 in
theorem signs_more (a b more : Int) (w : World) (he : Env w) (h0 : -9223372036854775808 ≤ a) (h1 : a ≤ 9223372036854775807) (k0 : -9223372036854775808 ≤ b) (k1 : b ≤ 9223372036854775807) (m0 : -9223372036854775808 ≤ more) (m1 : more ≤ 9223372036854775807) (hb : b ≠ 0) :
    Calls Tryd.prog 3 #[.int .i64 a, .int .i64 b, .int .i64 more] w fun e w' => e = .returned (.bool true) ∧ Below w.heap.size w w' := by
  obtain ⟨s1, s2⟩ := mulF_sign a b
  obtain ⟨t1, t2⟩ := divF_sign a b
  have qb := divF_bd a b
  have ab := absF_bd b k1
  have am := absF_bd more m1
  have ap := absF_pos b hb
  have n1 := nrm_id (absF b) (by omega)
  have n2 := nrm_id (absF more) (by omega)
  have db := addF_bd (absF b) (absF more)
  have dd : absF b ≤ addF (absF b) (absF more) := by
    unfold addF; rw [n1, n2]; unfold sat; (repeat' split) <;> omega
  have dz : addF (absF b) (absF more) ≠ 0 := by omega
  have hbz : (b == 0) = false := by simp; omega
  have mono := div_mono a b (addF (absF b) (absF more)) hb (by rw [absF_nn (addF (absF b) (absF more)) (by omega)]; exact dd)
  have C1 := mul_any a b w h0 h1 k0 k1
  have C2 := div_any a b
  have C3 := div_any a (addF (absF b) (absF more))
  have rb := divF_bd a (addF (absF b) (absF more))
  clear n1 n2 dd ap
  generalize hd : addF (absF b) (absF more) = d at *
  generalize mulF a b = p at *
  generalize hq : divF a b = q at *
  generalize hr : divF a d = r at *
  have H2 := Lib.hid (fun W => C2 W h0 h1 k0 k1 hb)
  have H3 := Lib.hid (fun W => C3 W h0 h1 (by omega) (by omega) dz)
  clear C2 C3 hq hr hb dz
  have db0 : -9223372036854775808 ≤ d := by omega
  by_cases ha : a < 0
  all_goals by_cases hbn : b < 0
  all_goals
    have ss1 : 0 ≤ p ∨ p ≤ 0 := by omega
    by_cases hp : 0 < p
    all_goals by_cases hp2 : p < 0
    all_goals by_cases hq : 0 < q
    all_goals by_cases hq2 : q < 0
    all_goals (try (exfalso; omega))
    all_goals
      clear s1 s2 t1 t2 ss1
      go_enter Tryd.func3, Tryd.ntmps3
      go_wp2_with fail
      refine C1.mono ?_; rintro e w1 ⟨rfl, n1, rfl⟩
      go_wp2_with fail
      refine (H2.out _).mono ?_; rintro e w2 ⟨rfl, n2, rfl⟩
      go_wp2_with fail
      refine (abs_any b _ k0 k1).mono ?_; rintro e w3 ⟨rfl, rfl⟩
      go_wp2_with fail
      refine (abs_any more _ m0 m1).mono ?_; rintro e w3 ⟨rfl, rfl⟩
      go_wp2_with fail
      refine (add_any (absF b) (absF more) _ (by omega) (by omega) (by omega) (by omega)).mono ?_; rintro e w3 ⟨rfl, rfl⟩
      go_wp2_with fail
      refine (H3.out _).mono ?_; rintro e w3 ⟨rfl, n3, rfl⟩
      go_wp2_with fail
      refine (abs_any r _ (by omega) (by omega)).mono ?_; rintro e w4 ⟨rfl, rfl⟩
      go_wp2_with fail
      refine (abs_any q _ (by omega) (by omega)).mono ?_; rintro e w4 ⟨rfl, rfl⟩
      go_wp2_with fail
      refine (known_any _ (env_drewN he _)).mono ?_; rintro e w5 ⟨rfl, hb⟩
      go_wp2_with fail
      go_ret
      exact ⟨rfl, below_of_drewN hb⟩

theorem signs_any (a b more : Int) (w : World) (he : Env w) (h0 : -9223372036854775808 ≤ a) (h1 : a ≤ 9223372036854775807) (k0 : -9223372036854775808 ≤ b) (k1 : b ≤ 9223372036854775807) (m0 : -9223372036854775808 ≤ more) (m1 : more ≤ 9223372036854775807) :
    Calls Tryd.prog 3 #[.int .i64 a, .int .i64 b, .int .i64 more] w fun e w' => e = .returned (.bool true) ∧ Below w.heap.size w w' := by
  by_cases hb : b = 0
  · subst hb; exact signs_zero a more w he h0 h1
  · exact signs_more a b more w he h0 h1 k0 k1 m0 m1 hb
end Go.Proofs.YtjmljepndicdmaaDoor
