import Derived.Test.YtjmljepndicdmaaDoorB2
import Derived.Test.YtjmljepndicdmaaDoorA2
set_option linter.unusedVariables false
set_option linter.unusedSimpArgs false
namespace Go.Proofs.YtjmljepndicdmaaDoor
open Go.RowKit

/-- What the first two calls of Parse give. -/
def Cut0 (s R : ByteArray) (m : Bool) : Prop := ∀ W, Calls Tryd.prog 48 #[.string s, .string ⟨#[45]⟩] W fun e w' => e = .returned (.tuple #[.string R, .bool m]) ∧ w' = W
def Run0 (R A B : ByteArray) : Prop := ∀ W, Calls Tryd.prog 49 #[.string R] W fun e w' => e = .returned (.tuple #[.string A, .string B]) ∧ ∃ n, w' = W.drewN n
def Num0 (A : ByteArray) (u : Int) : Prop := ∀ W, Calls Tryd.prog 50 #[.string A, .int .i64 10, .int .i64 64] W fun e w' => e = .returned (.tuple #[.int .u64 u, .nilIface]) ∧ Below W.heap.size W w'
def Part0 (D : ByteArray) (v : Int) : Prop := ∀ W, Env W → Calls Tryd.prog 51 #[.string D] W fun e w' => e = .returned (.int .u64 v) ∧ Below W.heap.size W w'
theorem below_of_drewN {w w1 : World} {n : Nat} (h : Below w.heap.size (w.drewN n) w1) : Below w.heap.size w w1 := (below_drewN (Below.refl _ w) n).trans h
theorem env_drewN {w : World} (h : Env w) (n : Nat) : Env (w.drewN n) := h.below (below_drewN (Below.refl _ w) n)

set_option maxRecDepth 100000 in
set_option maxHeartbeats 1000000 in
theorem parse_a1 (s R A B : ByteArray) (m : Bool) (w : World) (H0 : Hid (Cut0 s R m)) (H1 : Hid (Run0 R A B)) (g : A.size < 1) :
    Calls Tryd.prog 33 #[.string s] w fun e w' => e = .returned (.tuple #[.int .i64 0, .int .i64 3]) ∧ Below w.heap.size w w' := by
  have g' : (A.size : Int) < 1 := by omega
  go_enter Tryd.func33, Tryd.ntmps33
  go_wp2_with fail
  refine (H0.out _).mono ?_; rintro e w' ⟨rfl, rfl⟩
  go_wp2_with fail
  refine (H1.out _).mono ?_; rintro e w2 ⟨rfl, n, rfl⟩
  go_wp2_with fail
  go_ret2
  exact ⟨rfl, below_drewN (Below.refl _ _) n⟩

set_option maxRecDepth 100000 in
set_option maxHeartbeats 1000000 in
theorem parse_a2 (s R A B : ByteArray) (m : Bool) (w : World) (H0 : Hid (Cut0 s R m)) (H1 : Hid (Run0 R A B)) (g : 13 < A.size) :
    Calls Tryd.prog 33 #[.string s] w fun e w' => e = .returned (.tuple #[.int .i64 0, .int .i64 3]) ∧ Below w.heap.size w w' := by
  have g' : 13 < (A.size : Int) := by omega
  have g2 : ¬ (A.size : Int) < 1 := by omega
  go_enter Tryd.func33, Tryd.ntmps33
  go_wp2_with fail
  refine (H0.out _).mono ?_; rintro e w' ⟨rfl, rfl⟩
  go_wp2_with fail
  refine (H1.out _).mono ?_; rintro e w2 ⟨rfl, n, rfl⟩
  go_wp2_with fail
  go_ret2
  exact ⟨rfl, below_drewN (Below.refl _ _) n⟩

set_option maxRecDepth 100000 in
set_option maxHeartbeats 1000000 in
theorem parse_a3 (s R A B : ByteArray) (m : Bool) (w : World) (H0 : Hid (Cut0 s R m)) (H1 : Hid (Run0 R A B)) (g : 1 < A.size) (g2 : A.size ≤ 13) (g3 : ((A[0].toNat : Int) == 48) = true) :
    Calls Tryd.prog 33 #[.string s] w fun e w' => e = .returned (.tuple #[.int .i64 0, .int .i64 3]) ∧ Below w.heap.size w w' := by
  go_enter Tryd.func33, Tryd.ntmps33
  go_wp2_with fail
  refine (H0.out _).mono ?_; rintro e w' ⟨rfl, rfl⟩
  go_wp2_with fail
  refine (H1.out _).mono ?_; rintro e w2 ⟨rfl, n, rfl⟩
  go_wp2_with fail
  go_ret2
  exact ⟨rfl, below_drewN (Below.refl _ _) n⟩

set_option maxRecDepth 100000 in
set_option maxHeartbeats 1000000 in
theorem parse_c (s R A B : ByteArray) (m : Bool) (w : World) (H0 : Hid (Cut0 s R m)) (H1 : Hid (Run0 R A B)) (g1 : 1 ≤ A.size) (g2 : A.size ≤ 13) (g3 : A.size = 1 ∨ (1 < A.size ∧ ∀ h : 0 < A.size, ((A[0].toNat : Int) == 48) = false)) (b0 : 0 < B.size) (b1 : (!B.toList.isEmpty) = true) (b2 : ((B[0].toNat : Int) != 46) = true) :
    Calls Tryd.prog 33 #[.string s] w fun e w' => e = .returned (.tuple #[.int .i64 0, .int .i64 3]) ∧ Below w.heap.size w w' := by
  rcases g3 with g3 | ⟨g3, g4⟩
  all_goals (try have g5 := g4 (by omega))
  all_goals (try clear g4)
  all_goals
    go_enter Tryd.func33, Tryd.ntmps33
    go_wp2_with fail
    refine (H0.out _).mono ?_; rintro e w' ⟨rfl, rfl⟩
    go_wp2_with fail
    refine (H1.out _).mono ?_; rintro e w2 ⟨rfl, n, rfl⟩
    go_wp2_with fail
    go_ret2
    exact ⟨rfl, below_drewN (Below.refl _ _) n⟩

set_option maxRecDepth 100000 in
set_option maxHeartbeats 1000000 in
theorem parse_d1 (s R A B D E : ByteArray) (m : Bool) (w : World) (H0 : Hid (Cut0 s R m)) (H1 : Hid (Run0 R A B)) (g1 : 1 ≤ A.size) (g2 : A.size ≤ 13) (g3 : A.size = 1 ∨ (1 < A.size ∧ ∀ h : 0 < A.size, ((A[0].toNat : Int) == 48) = false)) (b0 : 0 < B.size) (b1 : (!B.toList.isEmpty) = true) (b2 : ((B[0].toNat : Int) != 46) = false) (H2 : Hid (Run0 (B.extract 1 B.size) D E)) (d1 : (!E.toList.isEmpty) = true) :
    Calls Tryd.prog 33 #[.string s] w fun e w' => e = .returned (.tuple #[.int .i64 0, .int .i64 3]) ∧ Below w.heap.size w w' := by
  rcases g3 with g3 | ⟨g3, g4⟩
  all_goals (try have g5 := g4 (by omega))
  all_goals (try clear g4)
  all_goals
    go_enter Tryd.func33, Tryd.ntmps33
    go_wp2_with fail
    refine (H0.out _).mono ?_; rintro e w' ⟨rfl, rfl⟩
    go_wp2_with fail
    refine (H1.out _).mono ?_; rintro e w2 ⟨rfl, n, rfl⟩
    go_wp2_with fail
    refine (H2.out _).mono ?_; rintro e w3 ⟨rfl, n', rfl⟩
    go_wp2_with fail
    go_ret2
    exact ⟨rfl, below_drewN (Below.refl _ _) _⟩

set_option maxRecDepth 100000 in
set_option maxHeartbeats 1000000 in
theorem parse_d2 (s R A B D E : ByteArray) (m : Bool) (w : World) (H0 : Hid (Cut0 s R m)) (H1 : Hid (Run0 R A B)) (g1 : 1 ≤ A.size) (g2 : A.size ≤ 13) (g3 : A.size = 1 ∨ (1 < A.size ∧ ∀ h : 0 < A.size, ((A[0].toNat : Int) == 48) = false)) (b0 : 0 < B.size) (b1 : (!B.toList.isEmpty) = true) (b2 : ((B[0].toNat : Int) != 46) = false) (H2 : Hid (Run0 (B.extract 1 B.size) D E)) (d1 : (!E.toList.isEmpty) = false) (d2 : D.size < 1) :
    Calls Tryd.prog 33 #[.string s] w fun e w' => e = .returned (.tuple #[.int .i64 0, .int .i64 3]) ∧ Below w.heap.size w w' := by
  have d2' : (D.size : Int) < 1 := by omega
  rcases g3 with g3 | ⟨g3, g4⟩
  all_goals (try have g5 := g4 (by omega))
  all_goals (try clear g4)
  all_goals
    go_enter Tryd.func33, Tryd.ntmps33
    go_wp2_with fail
    refine (H0.out _).mono ?_; rintro e w' ⟨rfl, rfl⟩
    go_wp2_with fail
    refine (H1.out _).mono ?_; rintro e w2 ⟨rfl, n, rfl⟩
    go_wp2_with fail
    refine (H2.out _).mono ?_; rintro e w3 ⟨rfl, n', rfl⟩
    go_wp2_with fail
    go_ret2
    exact ⟨rfl, below_drewN (Below.refl _ _) _⟩

set_option maxRecDepth 100000 in
set_option maxHeartbeats 1000000 in
theorem parse_d3 (s R A B D E : ByteArray) (m : Bool) (w : World) (H0 : Hid (Cut0 s R m)) (H1 : Hid (Run0 R A B)) (g1 : 1 ≤ A.size) (g2 : A.size ≤ 13) (g3 : A.size = 1 ∨ (1 < A.size ∧ ∀ h : 0 < A.size, ((A[0].toNat : Int) == 48) = false)) (b0 : 0 < B.size) (b1 : (!B.toList.isEmpty) = true) (b2 : ((B[0].toNat : Int) != 46) = false) (H2 : Hid (Run0 (B.extract 1 B.size) D E)) (d1 : (!E.toList.isEmpty) = false) (d2 : 6 < D.size) :
    Calls Tryd.prog 33 #[.string s] w fun e w' => e = .returned (.tuple #[.int .i64 0, .int .i64 3]) ∧ Below w.heap.size w w' := by
  have d2' : 6 < (D.size : Int) := by omega
  have d3 : ¬ (D.size : Int) < 1 := by omega
  rcases g3 with g3 | ⟨g3, g4⟩
  all_goals (try have g5 := g4 (by omega))
  all_goals (try clear g4)
  all_goals
    go_enter Tryd.func33, Tryd.ntmps33
    go_wp2_with fail
    refine (H0.out _).mono ?_; rintro e w' ⟨rfl, rfl⟩
    go_wp2_with fail
    refine (H1.out _).mono ?_; rintro e w2 ⟨rfl, n, rfl⟩
    go_wp2_with fail
    refine (H2.out _).mono ?_; rintro e w3 ⟨rfl, n', rfl⟩
    go_wp2_with fail
    go_ret2
    exact ⟨rfl, below_drewN (Below.refl _ _) _⟩

set_option maxRecDepth 100000 in
set_option maxHeartbeats 1000000 in
theorem parse_b_big (s R A B : ByteArray) (m : Bool) (w : World) (H0 : Hid (Cut0 s R m)) (H1 : Hid (Run0 R A B)) (g1 : 1 ≤ A.size) (g2 : A.size ≤ 13) (g3 : A.size = 1 ∨ (1 < A.size ∧ ∀ h : 0 < A.size, ((A[0].toNat : Int) == 48) = false)) (b1 : (!B.toList.isEmpty) = false) (u v : Int) (HU : Hid (Num0 A u)) (HV : Hid (Part0 ⟨#[]⟩ v)) (he : Env w) (u0 : 0 ≤ u) (u1 : u < 10000000000000) (v0 : 0 ≤ v) (v1 : v < 1000000) (hn : 9223372036854775807 < u * 1000000 + v) :
    Calls Tryd.prog 33 #[.string s] w fun e w' => e = .returned (.tuple #[.int .i64 0, .int .i64 1]) ∧ Below w.heap.size w w' := by
  rcases g3 with g3 | ⟨g3, g4⟩
  all_goals (try have g5 := g4 (by omega))
  all_goals (try clear g4)
  all_goals
    go_enter Tryd.func33, Tryd.ntmps33
    go_wp2_with fail
    refine (H0.out _).mono ?_; rintro e w' ⟨rfl, rfl⟩
    go_wp2_with fail
    refine (H1.out _).mono ?_; rintro e w2 ⟨rfl, n, rfl⟩
    go_wp2_with fail
    refine (HU.out _).mono ?_; rintro e w3 ⟨rfl, hb⟩
    go_wp2_with fail
    refine (HV.out _ ((env_drewN he _).below hb)).mono ?_; rintro e w4 ⟨rfl, hb2⟩
    go_wp2_with (go_at_call 38; refine (signed_any _ _ _ _ (by omega) (by omega)).mono ?_; rintro e w' ⟨rfl, rfl⟩)
    go_ret2
    exact ⟨rfl, (below_of_drewN hb).trans (hb2.mono hb.size)⟩

set_option maxRecDepth 100000 in
set_option maxHeartbeats 1000000 in
theorem parse_e_big (s R A B D E : ByteArray) (m : Bool) (w : World) (H0 : Hid (Cut0 s R m)) (H1 : Hid (Run0 R A B)) (g1 : 1 ≤ A.size) (g2 : A.size ≤ 13) (g3 : A.size = 1 ∨ (1 < A.size ∧ ∀ h : 0 < A.size, ((A[0].toNat : Int) == 48) = false)) (b0 : 0 < B.size) (b1 : (!B.toList.isEmpty) = true) (b2 : ((B[0].toNat : Int) != 46) = false) (H2 : Hid (Run0 (B.extract 1 B.size) D E)) (d1 : (!E.toList.isEmpty) = false) (d2 : 1 ≤ D.size) (d3 : D.size ≤ 6) (u v : Int) (HU : Hid (Num0 A u)) (HV : Hid (Part0 D v)) (he : Env w) (u0 : 0 ≤ u) (u1 : u < 10000000000000) (v0 : 0 ≤ v) (v1 : v < 1000000) (hn : 9223372036854775807 < u * 1000000 + v) :
    Calls Tryd.prog 33 #[.string s] w fun e w' => e = .returned (.tuple #[.int .i64 0, .int .i64 1]) ∧ Below w.heap.size w w' := by
  rcases g3 with g3 | ⟨g3, g4⟩
  all_goals (try have g5 := g4 (by omega))
  all_goals (try clear g4)
  all_goals
    go_enter Tryd.func33, Tryd.ntmps33
    go_wp2_with fail
    refine (H0.out _).mono ?_; rintro e w' ⟨rfl, rfl⟩
    go_wp2_with fail
    refine (H1.out _).mono ?_; rintro e w2 ⟨rfl, n, rfl⟩
    go_wp2_with fail
    refine (H2.out _).mono ?_; rintro e w3 ⟨rfl, n', rfl⟩
    go_wp2_with fail
    refine (HU.out _).mono ?_; rintro e w3 ⟨rfl, hb⟩
    go_wp2_with fail
    refine (HV.out _ ((env_drewN he _).below hb)).mono ?_; rintro e w4 ⟨rfl, hb2⟩
    go_wp2_with (go_at_call 38; refine (signed_any _ _ _ _ (by omega) (by omega)).mono ?_; rintro e w' ⟨rfl, rfl⟩)
    go_ret2
    exact ⟨rfl, (below_of_drewN hb).trans (hb2.mono hb.size)⟩

set_option maxRecDepth 100000 in
set_option maxHeartbeats 1000000 in
theorem parse_b_ok (s R A B : ByteArray) (m : Bool) (w : World) (H0 : Hid (Cut0 s R m)) (H1 : Hid (Run0 R A B)) (g1 : 1 ≤ A.size) (g2 : A.size ≤ 13) (g3 : A.size = 1 ∨ (1 < A.size ∧ ∀ h : 0 < A.size, ((A[0].toNat : Int) == 48) = false)) (b1 : (!B.toList.isEmpty) = false) (u v : Int) (HU : Hid (Num0 A u)) (HV : Hid (Part0 ⟨#[]⟩ v)) (he : Env w) (u0 : 0 ≤ u) (u1 : u < 10000000000000) (v0 : 0 ≤ v) (v1 : v < 1000000) (hn : u * 1000000 + v ≤ 9223372036854775807) :
    Calls Tryd.prog 33 #[.string s] w fun e w' => e = .returned (.tuple #[.int .i64 (sgnF (u * 1000000 + v) m false), .int .i64 0]) ∧ Below w.heap.size w w' := by
  rcases g3 with g3 | ⟨g3, g4⟩
  all_goals (try have g5 := g4 (by omega))
  all_goals (try clear g4)
  all_goals
    go_enter Tryd.func33, Tryd.ntmps33
    go_wp2_with fail
    refine (H0.out _).mono ?_; rintro e w' ⟨rfl, rfl⟩
    go_wp2_with fail
    refine (H1.out _).mono ?_; rintro e w2 ⟨rfl, n, rfl⟩
    go_wp2_with fail
    refine (HU.out _).mono ?_; rintro e w3 ⟨rfl, hb⟩
    go_wp2_with fail
    refine (HV.out _ ((env_drewN he _).below hb)).mono ?_; rintro e w4 ⟨rfl, hb2⟩
    go_wp2_with (go_at_call 38; refine (signed_any _ _ _ _ (by omega) (by omega)).mono ?_; rintro e w' ⟨rfl, rfl⟩)
    go_ret2
    exact ⟨rfl, (below_of_drewN hb).trans (hb2.mono hb.size)⟩

set_option maxRecDepth 100000 in
set_option maxHeartbeats 1000000 in
theorem parse_e_ok (s R A B D E : ByteArray) (m : Bool) (w : World) (H0 : Hid (Cut0 s R m)) (H1 : Hid (Run0 R A B)) (g1 : 1 ≤ A.size) (g2 : A.size ≤ 13) (g3 : A.size = 1 ∨ (1 < A.size ∧ ∀ h : 0 < A.size, ((A[0].toNat : Int) == 48) = false)) (b0 : 0 < B.size) (b1 : (!B.toList.isEmpty) = true) (b2 : ((B[0].toNat : Int) != 46) = false) (H2 : Hid (Run0 (B.extract 1 B.size) D E)) (d1 : (!E.toList.isEmpty) = false) (d2 : 1 ≤ D.size) (d3 : D.size ≤ 6) (u v : Int) (HU : Hid (Num0 A u)) (HV : Hid (Part0 D v)) (he : Env w) (u0 : 0 ≤ u) (u1 : u < 10000000000000) (v0 : 0 ≤ v) (v1 : v < 1000000) (hn : u * 1000000 + v ≤ 9223372036854775807) :
    Calls Tryd.prog 33 #[.string s] w fun e w' => e = .returned (.tuple #[.int .i64 (sgnF (u * 1000000 + v) m false), .int .i64 0]) ∧ Below w.heap.size w w' := by
  rcases g3 with g3 | ⟨g3, g4⟩
  all_goals (try have g5 := g4 (by omega))
  all_goals (try clear g4)
  all_goals
    go_enter Tryd.func33, Tryd.ntmps33
    go_wp2_with fail
    refine (H0.out _).mono ?_; rintro e w' ⟨rfl, rfl⟩
    go_wp2_with fail
    refine (H1.out _).mono ?_; rintro e w2 ⟨rfl, n, rfl⟩
    go_wp2_with fail
    refine (H2.out _).mono ?_; rintro e w3 ⟨rfl, n', rfl⟩
    go_wp2_with fail
    refine (HU.out _).mono ?_; rintro e w3 ⟨rfl, hb⟩
    go_wp2_with fail
    refine (HV.out _ ((env_drewN he _).below hb)).mono ?_; rintro e w4 ⟨rfl, hb2⟩
    go_wp2_with (go_at_call 38; refine (signed_any _ _ _ _ (by omega) (by omega)).mono ?_; rintro e w' ⟨rfl, rfl⟩)
    go_ret2
    exact ⟨rfl, (below_of_drewN hb).trans (hb2.mono hb.size)⟩
end Go.Proofs.YtjmljepndicdmaaDoor
