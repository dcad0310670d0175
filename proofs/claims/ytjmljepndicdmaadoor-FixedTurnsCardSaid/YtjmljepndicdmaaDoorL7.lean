import Derived.Test.YtjmljepndicdmaaDoorK
import Derived.Test.YtjmljepndicdmaaDoorF4
set_option linter.unusedVariables false
set_option linter.unusedSimpArgs false
namespace Go.Proofs.YtjmljepndicdmaaDoor
open Go.RowKit

set_option maxRecDepth 100000 in
set_option maxHeartbeats 4000000 in
theorem turns_any (n bits b : Int) (w : World) (he : Env w) (h0 : -9223372036854775808 ≤ n) (h1 : n ≤ 9223372036854775807) (g0 : 0 ≤ bits) (g1 : bits ≤ 18446744073709551615) (k0 : -9223372036854775808 ≤ b) (k1 : b ≤ 9223372036854775807) :
    Calls Tryd.prog 7 #[.int .i64 n, .int .u64 bits, .int .i64 b] w fun e w' => e = .returned (.bool true) ∧ Below w.heap.size w w' := by
  obtain ⟨v, er, HF1, HF2⟩ : ∃ v er : Int, Hid (∀ W, Calls Tryd.prog 25 #[.int .u64 bits] W fun e w' => e = .returned (.tuple #[.int .i64 v, .int .i64 er]) ∧ ∃ n, w' = W.drewN n) ∧
      Hid (∀ W, Calls Tryd.prog 26 #[.int .u64 bits] W fun e w' => e = .returned (.tuple #[.int .i64 v, .int .i64 er]) ∧ Below W.heap.size W w') := by
    obtain ⟨k, rfl⟩ := Int.eq_ofNat_of_zero_le g0
    have hk : k < 18446744073709551616 := by omega
    exact ⟨_, _, Lib.hid fun W => float_any k W hk, Lib.hid fun W => rfloat_any k W hk⟩
  have O1 := Lib.hid (fun W => of_any n W h0 h1)
  have O2 := Lib.hid (fun W => refOf_any n W h0 h1)
  have W1 := Lib.hid (fun W => whole_any n W h0 h1)
  have W2 := Lib.hid (fun W => refWhole_any n W h0 h1)
  have C1 := Lib.hid (fun W => cmp_any n b W h0 h1 k0 k1)
  have C2 := Lib.hid (fun W => refCmp_any n b W h0 h1 k0 k1)
  go_enter Tryd.func7, Tryd.ntmps7
  go_wp2_with fail
  refine (HF1.out _).mono ?_; rintro e w2 ⟨rfl, n1, rfl⟩
  go_wp2_with fail
  refine (HF2.out _).mono ?_; rintro e w3 ⟨rfl, hb1⟩
  go_wp2_with fail
  refine (O1.out _).mono ?_; rintro e w4 ⟨rfl, n2, rfl⟩
  go_wp2_with fail
  refine (O2.out _).mono ?_; rintro e w5 ⟨rfl, hb2⟩
  go_wp2_with fail
  refine (W1.out _).mono ?_; rintro e w6 ⟨rfl, rfl⟩
  go_wp2_with fail
  refine (W2.out _).mono ?_; rintro e w6 ⟨rfl, rfl⟩
  go_wp2_with fail
  refine (C1.out _).mono ?_; rintro e w6 ⟨rfl, rfl⟩
  go_wp2_with fail
  refine (C2.out _).mono ?_; rintro e w6 ⟨rfl, rfl⟩
  go_wp2_with fail
  have E1 := (env_drewN he n1).below hb1
  refine (known_any _ ((env_drewN E1 n2).below hb2)).mono ?_; rintro e w7 ⟨rfl, hb⟩
  go_wp2_with fail
  go_ret
  have s1 := hb1.size
  have s2 := hb2.size
  exact ⟨rfl, ((below_of_drewN hb1).trans ((below_of_drewN hb2).mono (by simpa using s1))).trans (hb.mono (by simp at s1 s2; omega))⟩
end Go.Proofs.YtjmljepndicdmaaDoor
