import Derived.Test.YtjmljepndicdmaaDoorK
import Derived.Test.YtjmljepndicdmaaDoorC4
set_option linter.unusedVariables false
set_option linter.unusedSimpArgs false
namespace Go.Proofs.YtjmljepndicdmaaDoor
open Go.RowKit

set_option maxRecDepth 100000 in
set_option maxHeartbeats 4000000 in
theorem reckons_zero (a b : Int) (w : World) (he : Env w) (h0 : -9223372036854775808 ≤ a) (h1 : a ≤ 9223372036854775807) (hz : b = 0) :
    Calls Tryd.prog 4 #[.int .i64 a, .int .i64 b] w fun e w' => e = .returned (.bool true) ∧ Below w.heap.size w w' := by
  subst hz
  have k0 : (-9223372036854775808 : Int) ≤ 0 := by omega
  have k1 : (0 : Int) ≤ 9223372036854775807 := by omega
  have D1 := Lib.hid (fun W => div_zero a W)
  have D2 := Lib.hid (fun W => refDiv_zero a W)
  have nb := negF_bd 0 k1
  have na := nrm_bd a h1
  have hbn : absF (nrm a) = absF a := absF_nrm a
  have A1 := Lib.hid (fun W => add_any a 0 W h0 h1 k0 k1)
  have A2 := Lib.hid (fun W => refAdd_any a 0 W h0 h1 k0 k1)
  have S1 := Lib.hid (fun W => sub_any a 0 W h0 h1 k0 k1)
  have N1 := Lib.hid (fun W => refNeg_any 0 W k0 k1)
  have A3 := Lib.hid (fun W => refAdd_any a (negF 0) W h0 h1 (by omega) (by omega))
  have N2 := Lib.hid (fun W => neg_any a W h0 h1)
  have N3 := Lib.hid (fun W => refNeg_any a W h0 h1)
  have B1 := Lib.hid (fun W => abs_any a W h0 h1)
  have B2 := Lib.hid (fun W => norm_any a W h0 h1)
  have B3 := Lib.hid (fun W => refAbs_any (nrm a) W (by omega) (by omega))
  have M1 := Lib.hid (fun W => mul_any a 0 W h0 h1 k0 k1)
  have M2 := Lib.hid (fun W => refMul_any a 0 W h0 h1 k0 k1)
  go_enter Tryd.func4, Tryd.ntmps4
  go_wp2_with fail
  refine (D1.out _).mono ?_; rintro e w2 ⟨rfl, rfl⟩
  go_wp2_with fail
  refine (D2.out _).mono ?_; rintro e w2 ⟨rfl, rfl⟩
  go_wp2_with fail
  refine (A1.out _).mono ?_; rintro e w2 ⟨rfl, rfl⟩
  go_wp2_with fail
  refine (A2.out _).mono ?_; rintro e w2 ⟨rfl, rfl⟩
  go_wp2_with fail
  refine (S1.out _).mono ?_; rintro e w2 ⟨rfl, rfl⟩
  go_wp2_with fail
  refine (N1.out _).mono ?_; rintro e w2 ⟨rfl, rfl⟩
  go_wp2_with fail
  refine (A3.out _).mono ?_; rintro e w2 ⟨rfl, rfl⟩
  go_wp2_with fail
  refine (N2.out _).mono ?_; rintro e w2 ⟨rfl, rfl⟩
  go_wp2_with fail
  refine (N3.out _).mono ?_; rintro e w2 ⟨rfl, rfl⟩
  go_wp2_with fail
  refine (B1.out _).mono ?_; rintro e w2 ⟨rfl, rfl⟩
  go_wp2_with fail
  refine (B2.out _).mono ?_; rintro e w2 ⟨rfl, rfl⟩
  go_wp2_with fail
  refine (B3.out _).mono ?_; rintro e w2 ⟨rfl, rfl⟩
  go_wp2_with fail
  refine (M1.out _).mono ?_; rintro e w2 ⟨rfl, n1, rfl⟩
  go_wp2_with fail
  refine (M2.out _).mono ?_; rintro e w2 ⟨rfl, hb2⟩
  go_wp2_with fail
  refine (known_any _ ((env_drewN he _).below hb2)).mono ?_; rintro e w5 ⟨rfl, hb⟩
  go_wp2_with fail
  go_ret
  exact ⟨rfl, (below_of_drewN hb2).trans (hb.mono (by have := hb2.size; simpa using this))⟩

set_option maxRecDepth 100000 in
set_option maxHeartbeats 4000000 in
theorem reckons_more (a b : Int) (w : World) (he : Env w) (h0 : -9223372036854775808 ≤ a) (h1 : a ≤ 9223372036854775807) (k0 : -9223372036854775808 ≤ b) (k1 : b ≤ 9223372036854775807) (hz : b ≠ 0) :
    Calls Tryd.prog 4 #[.int .i64 a, .int .i64 b] w fun e w' => e = .returned (.bool true) ∧ Below w.heap.size w w' := by
  have D1 := Lib.hid (fun W => div_any a b W h0 h1 k0 k1 hz)
  have D2 := Lib.hid (fun W => refDiv_any a b W h0 h1 k0 k1 hz)
  have nb := negF_bd b k1
  have na := nrm_bd a h1
  have hbn : absF (nrm a) = absF a := absF_nrm a
  have A1 := Lib.hid (fun W => add_any a b W h0 h1 k0 k1)
  have A2 := Lib.hid (fun W => refAdd_any a b W h0 h1 k0 k1)
  have S1 := Lib.hid (fun W => sub_any a b W h0 h1 k0 k1)
  have N1 := Lib.hid (fun W => refNeg_any b W k0 k1)
  have A3 := Lib.hid (fun W => refAdd_any a (negF b) W h0 h1 (by omega) (by omega))
  have N2 := Lib.hid (fun W => neg_any a W h0 h1)
  have N3 := Lib.hid (fun W => refNeg_any a W h0 h1)
  have B1 := Lib.hid (fun W => abs_any a W h0 h1)
  have B2 := Lib.hid (fun W => norm_any a W h0 h1)
  have B3 := Lib.hid (fun W => refAbs_any (nrm a) W (by omega) (by omega))
  have M1 := Lib.hid (fun W => mul_any a b W h0 h1 k0 k1)
  have M2 := Lib.hid (fun W => refMul_any a b W h0 h1 k0 k1)
  go_enter Tryd.func4, Tryd.ntmps4
  go_wp2_with fail
  refine (D1.out _).mono ?_; rintro e w2 ⟨rfl, n0, rfl⟩
  go_wp2_with fail
  refine (D2.out _).mono ?_; rintro e w2 ⟨rfl, hb1⟩
  go_wp2_with fail
  refine (A1.out _).mono ?_; rintro e w2 ⟨rfl, rfl⟩
  go_wp2_with fail
  refine (A2.out _).mono ?_; rintro e w2 ⟨rfl, rfl⟩
  go_wp2_with fail
  refine (S1.out _).mono ?_; rintro e w2 ⟨rfl, rfl⟩
  go_wp2_with fail
  refine (N1.out _).mono ?_; rintro e w2 ⟨rfl, rfl⟩
  go_wp2_with fail
  refine (A3.out _).mono ?_; rintro e w2 ⟨rfl, rfl⟩
  go_wp2_with fail
  refine (N2.out _).mono ?_; rintro e w2 ⟨rfl, rfl⟩
  go_wp2_with fail
  refine (N3.out _).mono ?_; rintro e w2 ⟨rfl, rfl⟩
  go_wp2_with fail
  refine (B1.out _).mono ?_; rintro e w2 ⟨rfl, rfl⟩
  go_wp2_with fail
  refine (B2.out _).mono ?_; rintro e w2 ⟨rfl, rfl⟩
  go_wp2_with fail
  refine (B3.out _).mono ?_; rintro e w2 ⟨rfl, rfl⟩
  go_wp2_with fail
  refine (M1.out _).mono ?_; rintro e w2 ⟨rfl, n1, rfl⟩
  go_wp2_with fail
  refine (M2.out _).mono ?_; rintro e w2 ⟨rfl, hb2⟩
  go_wp2_with fail
  have E1 := (env_drewN he n0).below hb1
  refine (known_any _ ((env_drewN E1 n1).below hb2)).mono ?_; rintro e w5 ⟨rfl, hb⟩
  go_wp2_with fail
  go_ret
  have s1 := hb1.size
  have s2 := hb2.size
  exact ⟨rfl, ((below_of_drewN hb1).trans ((below_of_drewN hb2).mono (by simpa using s1))).trans (hb.mono (by simp at s1 s2; omega))⟩

theorem reckons_any (a b : Int) (w : World) (he : Env w) (h0 : -9223372036854775808 ≤ a) (h1 : a ≤ 9223372036854775807) (k0 : -9223372036854775808 ≤ b) (k1 : b ≤ 9223372036854775807) :
    Calls Tryd.prog 4 #[.int .i64 a, .int .i64 b] w fun e w' => e = .returned (.bool true) ∧ Below w.heap.size w w' := by
  by_cases hz : b = 0
  · exact (by subst hz; exact reckons_zero a 0 w he h0 h1 rfl)
  · exact reckons_more a b w he h0 h1 k0 k1 hz
end Go.Proofs.YtjmljepndicdmaaDoor
