import Derived.Test.YtjmljepndicdmaaDoorB4
import Derived.Test.YtjmljepndicdmaaDoorA6
set_option linter.unusedVariables false
set_option linter.unusedSimpArgs false
namespace Go.Proofs.YtjmljepndicdmaaDoor
open Go.RowKit

theorem k_div : divF 1000000 3000000 = 333333 := by decide +kernel
theorem k_mul : mulF 1500000 2000000 = 3000000 := by decide +kernel
theorem k_add : addF 9223372036854775807 1 = 9223372036854775807 := by decide +kernel
theorem k_parse : parseF [45, 49, 46, 53] = (-1500000, 0) := by decide +kernel

theorem div_k (w : World) : Calls Tryd.prog 10 #[.int .i64 1000000, .int .i64 3000000] w fun e w' => e = .returned (.tuple #[.int .i64 333333, .int .i64 0]) ∧ ∃ n, w' = w.drewN n := by
  have := div_any 1000000 3000000 w (by omega) (by omega) (by omega) (by omega) (by omega)
  rw [k_div] at this
  exact this
theorem mul_k (w : World) : Calls Tryd.prog 9 #[.int .i64 1500000, .int .i64 2000000] w fun e w' => e = .returned (.int .i64 3000000) ∧ ∃ n, w' = w.drewN n := by
  have := mul_any 1500000 2000000 w (by omega) (by omega) (by omega) (by omega)
  rw [k_mul] at this
  exact this
def TopI : Int := 9223372036854775807
theorem add_k (w : World) : Calls Tryd.prog 12 #[.int .i64 9223372036854775807, .int .i64 1] w fun e w' => e = .returned (.int .i64 9223372036854775807) ∧ w = w' := by
  have := add_any 9223372036854775807 1 w (by omega) (by omega) (by omega) (by omega)
  rw [k_add] at this
  exact this
theorem parse_k (w : World) (he : Env w) : Calls Tryd.prog 33 #[.string ⟨#[45, 49, 46, 53]⟩] w fun e w' => e = .returned (.tuple #[.int .i64 (-1500000), .int .i64 0]) ∧ Below w.heap.size w w' := by
  have := parse_any ⟨#[45, 49, 46, 53]⟩ w (by decide) he
  rw [show parseF ((⟨#[45, 49, 46, 53]⟩ : ByteArray).data.toList) = (-1500000, 0) from k_parse] at this
  exact this

set_option maxRecDepth 100000 in
set_option maxHeartbeats 1000000 in
theorem known_any (w : World) (he : Env w) :
    Calls Tryd.prog 11 #[] w fun e w' => e = .returned (.bool true) ∧ Below w.heap.size w w' := by
  go_enter Tryd.func11, Tryd.ntmps11
  go_wp2_with fail
  refine (div_k _).mono ?_; rintro e w1 ⟨rfl, n1, rfl⟩
  go_wp2_with fail
  refine (div_zero _ _).mono ?_; rintro e w2 ⟨rfl, rfl⟩
  go_wp2_with fail
  refine (parse_k _ (env_drewN he _)).mono ?_; rintro e w3 ⟨rfl, hb⟩
  go_wp2_with fail
  refine (mul_k _).mono ?_; rintro e w4 ⟨rfl, n4, rfl⟩
  go_wp2_with fail
  refine (add_k _).mono ?_; rintro e w5 ⟨rfl, rfl⟩
  go_wp2_with fail
  go_ret
  exact ⟨rfl, (below_of_drewN hb).trans (below_drewN (Below.refl _ _) _)⟩
end Go.Proofs.YtjmljepndicdmaaDoor
