import Derived.Test.YtjmljepndicdmaaDoorK
import Derived.Test.YtjmljepndicdmaaDoorS5
set_option linter.unusedVariables false
set_option linter.unusedSimpArgs false
namespace Go.Proofs.YtjmljepndicdmaaDoor
open Go.RowKit

set_option maxRecDepth 100000 in
set_option maxHeartbeats 4000000 in
theorem order_any (a b c : Int) (w : World) (he : Env w) (h0 : -9223372036854775808 ≤ a) (h1 : a ≤ 9223372036854775807) (k0 : -9223372036854775808 ≤ b) (k1 : b ≤ 9223372036854775807) (m0 : -9223372036854775808 ≤ c) (m1 : c ≤ 9223372036854775807) :
    Calls Tryd.prog 6 #[.int .i64 a, .int .i64 b, .int .i64 c] w fun e w' => e = .returned (.bool true) ∧ Below w.heap.size w w' := by
  have canti := cmp_anti a b
  have cadd := cmp_add a b c
  have ac := add_comm' a b
  have mc := mul_comm' a b
  have m1' := mul_one' a h1
  have nn := neg_neg' a h1
  have mb := mulF_bd a b
  have ab := addF_bd a b
  have sb := addF_bd a (negF b)
  have nb := negF_bd a h1
  have cr : -1 ≤ cmpF b a ∧ cmpF b a ≤ 1 := by unfold cmpF; (repeat' split) <;> omega
  have C1 := Lib.hid (fun W => cmp_any a b W h0 h1 k0 k1)
  have C2 := Lib.hid (fun W => cmp_any b a W k0 k1 h0 h1)
  have A1 := Lib.hid (fun W => add_any a c W h0 h1 m0 m1)
  have A2 := Lib.hid (fun W => add_any b c W k0 k1 m0 m1)
  have A3 := Lib.hid (fun W => add_any a b W h0 h1 k0 k1)
  have A4 := Lib.hid (fun W => add_any b a W k0 k1 h0 h1)
  have M1 := Lib.hid (fun W => mul_any a b W h0 h1 k0 k1)
  have M2 := Lib.hid (fun W => mul_any b a W k0 k1 h0 h1)
  have M3 := Lib.hid (fun W => mul_any a 1000000 W h0 h1 (by omega) (by omega))
  have N1 := Lib.hid (fun W => norm_any a W h0 h1)
  have G1 := Lib.hid (fun W => neg_any a W h0 h1)
  have G2 := Lib.hid (fun W => neg_any (negF a) W (by omega) (by omega))
  have S1 := Lib.hid (fun W => sub_any a b W h0 h1 k0 k1)
  rw [canti] at cadd
  unfold Hid at C1 A4 M2 M3 G2
  rw [canti] at C1
  rw [← ac] at A4
  rw [← mc] at M2
  rw [m1'] at M3
  rw [nn] at G2
  generalize cmpF b a = x at *
  generalize addF a b = s at *
  generalize addF a c = s1 at *
  generalize addF b c = s2 at *
  generalize mulF a b = p at *
  generalize addF a (negF b) = d at *
  have C1 := Lib.hid C1
  have A4 := Lib.hid A4
  have M2 := Lib.hid M2
  have M3 := Lib.hid M3
  have G2 := Lib.hid G2
  clear canti ac mc m1' nn
  by_cases hx : 0 < x
  · have hs : s1 ≤ s2 := cadd (by omega)
    clear cadd
    go_enter Tryd.func6, Tryd.ntmps6
    go_wp2_with fail
    refine (C1.out _).mono ?_; rintro e w2 ⟨rfl, rfl⟩
    go_wp2_with fail
    refine (C2.out _).mono ?_; rintro e w2 ⟨rfl, rfl⟩
    go_wp2_with fail
    refine (A1.out _).mono ?_; rintro e w2 ⟨rfl, rfl⟩
    go_wp2_with fail
    refine (A2.out _).mono ?_; rintro e w2 ⟨rfl, rfl⟩
    go_wp2_with fail
    refine (A3.out _).mono ?_; rintro e w2 ⟨rfl, rfl⟩
    go_wp2_with fail
    refine (A4.out _).mono ?_; rintro e w2 ⟨rfl, rfl⟩
    go_wp2_with fail
    refine (M1.out _).mono ?_; rintro e w2 ⟨rfl, n1, rfl⟩
    go_wp2_with fail
    refine (M2.out _).mono ?_; rintro e w2 ⟨rfl, n2, rfl⟩
    go_wp2_with fail
    refine (M3.out _).mono ?_; rintro e w2 ⟨rfl, n3, rfl⟩
    go_wp2_with fail
    refine (N1.out _).mono ?_; rintro e w2 ⟨rfl, rfl⟩
    go_wp2_with fail
    refine (G1.out _).mono ?_; rintro e w2 ⟨rfl, rfl⟩
    go_wp2_with fail
    refine (G2.out _).mono ?_; rintro e w2 ⟨rfl, rfl⟩
    go_wp2_with fail
    refine (N1.out _).mono ?_; rintro e w2 ⟨rfl, rfl⟩
    go_wp2_with fail
    refine (M1.out _).mono ?_; rintro e w2 ⟨rfl, n4, rfl⟩
    go_wp2_with fail
    refine (A3.out _).mono ?_; rintro e w2 ⟨rfl, rfl⟩
    go_wp2_with fail
    refine (S1.out _).mono ?_; rintro e w2 ⟨rfl, rfl⟩
    go_wp2_with fail
    refine (known_any _ (env_drewN he _)).mono ?_; rintro e w5 ⟨rfl, hb⟩
    go_wp2_with fail
    go_ret
    exact ⟨rfl, below_of_drewN hb⟩
  · clear cadd
    go_enter Tryd.func6, Tryd.ntmps6
    go_wp2_with fail
    refine (C1.out _).mono ?_; rintro e w2 ⟨rfl, rfl⟩
    go_wp2_with fail
    refine (C2.out _).mono ?_; rintro e w2 ⟨rfl, rfl⟩
    go_wp2_with fail
    refine (A3.out _).mono ?_; rintro e w2 ⟨rfl, rfl⟩
    go_wp2_with fail
    refine (A4.out _).mono ?_; rintro e w2 ⟨rfl, rfl⟩
    go_wp2_with fail
    refine (M1.out _).mono ?_; rintro e w2 ⟨rfl, n1, rfl⟩
    go_wp2_with fail
    refine (M2.out _).mono ?_; rintro e w2 ⟨rfl, n2, rfl⟩
    go_wp2_with fail
    refine (M3.out _).mono ?_; rintro e w2 ⟨rfl, n3, rfl⟩
    go_wp2_with fail
    refine (N1.out _).mono ?_; rintro e w2 ⟨rfl, rfl⟩
    go_wp2_with fail
    refine (G1.out _).mono ?_; rintro e w2 ⟨rfl, rfl⟩
    go_wp2_with fail
    refine (G2.out _).mono ?_; rintro e w2 ⟨rfl, rfl⟩
    go_wp2_with fail
    refine (N1.out _).mono ?_; rintro e w2 ⟨rfl, rfl⟩
    go_wp2_with fail
    refine (M1.out _).mono ?_; rintro e w2 ⟨rfl, n4, rfl⟩
    go_wp2_with fail
    refine (A3.out _).mono ?_; rintro e w2 ⟨rfl, rfl⟩
    go_wp2_with fail
    refine (S1.out _).mono ?_; rintro e w2 ⟨rfl, rfl⟩
    go_wp2_with fail
    refine (known_any _ (env_drewN he _)).mono ?_; rintro e w5 ⟨rfl, hb⟩
    go_wp2_with fail
    go_ret
    exact ⟨rfl, below_of_drewN hb⟩
end Go.Proofs.YtjmljepndicdmaaDoor
