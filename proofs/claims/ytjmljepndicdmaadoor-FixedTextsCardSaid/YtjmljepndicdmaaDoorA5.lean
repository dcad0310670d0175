import Derived.Test.YtjmljepndicdmaaDoorA4
set_option linter.unusedVariables false
set_option linter.unusedSimpArgs false
namespace Go.Proofs.YtjmljepndicdmaaDoor
open Go.RowKit

set_option maxRecDepth 100000 in
set_option maxHeartbeats 400000 in
theorem div64_lo (lo y : Int) (w : World) (hlo0 : 0 ≤ lo) (hy1 : 1 ≤ y) (hlo : lo < 18446744073709551616) (hy : y < 18446744073709551616) :
    Calls Tryd.prog 55 #[.int .u64 0, .int .u64 lo, .int .u64 y] w fun e w' => e = .returned (.tuple #[.int .u64 (lo / y), .int .u64 (lo % y)]) ∧ ∃ n, w' = w.drewN n := by
  have hy0 : (y == 0) = false := by simp; omega
  have hyh : ¬ y ≤ 0 := by omega
  go_enter Tryd.func55, Tryd.ntmps55
  go_wp2_with fail
  go_quiet (fail)
  go_wp2_with fail
  go_ret2
  exact ⟨rfl, _, rfl⟩

/-- bits.Div64 where it does not panic. -/
theorem div64_any (hi lo y : Nat) (w : World) (hlo : lo < 18446744073709551616) (hy : y < 18446744073709551616) (hh : hi < y) :
    Calls Tryd.prog 55 #[.int .u64 hi, .int .u64 lo, .int .u64 y] w fun e w' => e = .returned (.tuple #[.int .u64 ((hi * 18446744073709551616 + lo) / y : Nat), .int .u64 ((hi * 18446744073709551616 + lo) % y : Nat)]) ∧ ∃ n, w' = w.drewN n := by
  by_cases h0 : hi = 0
  · subst h0
    refine (div64_lo lo y w (by omega) (by omega) (by omega) (by omega)).mono ?_
    rintro e w' ⟨rfl, n, rfl⟩
    refine ⟨?_, n, rfl⟩
    rw [Nat.zero_mul, Nat.zero_add, Int.natCast_ediv, Int.natCast_emod]
  · refine (div64_hi hi lo y w hlo hy hh h0).mono ?_
    rintro e w' ⟨rfl, rfl⟩
    exact ⟨rfl, 0, rfl⟩

def scQ (a b c : Nat) : Nat := if 18446744073709551616 ≤ a * b / c then 0 else a * b / c
def scO (a b c : Nat) : Bool := decide (18446744073709551616 ≤ a * b / c)
theorem scQ_lt (a b c : Nat) : scQ a b c < 18446744073709551616 := by unfold scQ; split <;> omega

theorem tuple2 {a b c d : Value} (h : a = c) (h' : b = d) : Ending.returned (.tuple #[a, b]) = .returned (.tuple #[c, d]) := by rw [h, h']

set_option maxHeartbeats 400000 in
theorem scaled_any (a b c : Nat) (w : World) (ha : a < 18446744073709551616) (hb : b < 18446744073709551616) (hc : c < 18446744073709551616) (hc0 : 0 < c) :
    Calls Tryd.prog 36 #[.int .u64 a, .int .u64 b, .int .u64 c] w fun e w' => e = .returned (.tuple #[.int .u64 (scQ a b c), .bool (scO a b c)]) ∧ ∃ n, w' = w.drewN n := by
  by_cases h : a * b / 18446744073709551616 < c
  · have hlt : ¬ 18446744073709551616 ≤ a * b / c := by
      have h1 : a * b < c * 18446744073709551616 := (Nat.div_lt_iff_lt_mul (by decide)).1 h
      have h2 : a * b / c < 18446744073709551616 := Nat.div_lt_of_lt_mul h1
      omega
    have hq : scQ a b c = (a * b / 18446744073709551616 * 18446744073709551616 + a * b % 18446744073709551616) / c := by
      unfold scQ; rw [if_neg hlt]; congr 1; omega
    have ho : scO a b c = false := decide_eq_false hlt
    have hlo : a * b % 18446744073709551616 < 18446744073709551616 := Nat.mod_lt _ (by decide)
    rw [hq, ho]
    clear hq ho hlt
    have C := Tryd.bits_Mul64 a b ha hb w
    generalize a * b / 18446744073709551616 = hi at *
    generalize a * b % 18446744073709551616 = lo at *
    have hi' : ¬ (c : Int) ≤ hi := by omega
    go_enter Tryd.func36, Tryd.ntmps36
    go_wp2_with (first | (go_at_call 43; refine C.mono ?_; rintro e w' ⟨rfl, rfl⟩) | (go_at_call 55; refine (div64_any _ _ _ _ hlo hc h).mono ?_; rintro e w' ⟨rfl, n, rfl⟩))
    go_ret2
    exact ⟨rfl, _, rfl⟩
  · have hlt : 18446744073709551616 ≤ a * b / c := by
      have h1 : c * 18446744073709551616 ≤ a * b := (Nat.le_div_iff_mul_le (by decide)).1 (by omega)
      exact (Nat.le_div_iff_mul_le hc0).2 (by rw [Nat.mul_comm]; exact h1)
    have hq : scQ a b c = 0 := by unfold scQ; rw [if_pos hlt]
    have ho : scO a b c = true := decide_eq_true hlt
    rw [hq, ho]
    clear hq ho hlt
    have C := Tryd.bits_Mul64 a b ha hb w
    generalize a * b / 18446744073709551616 = hi at *
    generalize a * b % 18446744073709551616 = lo at *
    have hi' : (c : Int) ≤ hi := by omega
    go_enter Tryd.func36, Tryd.ntmps36
    go_wp2_with (first | (go_at_call 43; refine C.mono ?_; rintro e w' ⟨rfl, rfl⟩))
    go_ret2
    exact ⟨rfl, 0, rfl⟩
end Go.Proofs.YtjmljepndicdmaaDoor
