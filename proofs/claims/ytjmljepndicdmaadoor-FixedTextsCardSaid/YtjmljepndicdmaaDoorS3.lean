import Derived.Test.YtjmljepndicdmaaDoorS2
import Derived.Lib.ParseIntBCases
set_option linter.unusedVariables false
set_option linter.unusedSimpArgs false
namespace Go.Proofs.YtjmljepndicdmaaDoor

/-- The number that digits spell, behind what was spelt before. -/
def numFrom (acc : Nat) : List UInt8 → Nat
  | [] => acc
  | c :: r => numFrom (acc * 10 + (c.toNat - 48)) r
def numOf (l : List UInt8) : Nat := numFrom 0 l

theorem step_lt {z a b n : Nat} (h1 : z < a * 10 ^ n) (h2 : a ≤ b * 10) : z < b * 10 ^ (n + 1) := by
  have h3 := Nat.mul_le_mul_right (10 ^ n) h2
  have h4 := Nat.lt_of_lt_of_le h1 h3
  rw [Nat.mul_assoc, Nat.mul_comm 10 (10 ^ n), ← Nat.pow_succ] at h4
  exact h4

theorem numFrom_lt : ∀ (l : List UInt8) (acc : Nat), l.all dig = true → numFrom acc l < (acc + 1) * 10 ^ l.length := by
  intro l
  induction l with
  | nil =>
    intro acc _
    show acc < (acc + 1) * 1
    omega
  | cons c r ih =>
    intro acc h
    simp only [List.all_cons, Bool.and_eq_true] at h
    have hc : c.toNat ≤ 57 := ((dig_iff c).1 h.1).2
    have h1 := ih (acc * 10 + (c.toNat - 48)) h.2
    have h2 : (acc * 10 + (c.toNat - 48) + 1) ≤ (acc + 1) * 10 := by omega
    exact step_lt h1 h2

theorem numOf_lt (l : List UInt8) (h : l.all dig = true) : numOf l < 10 ^ l.length := by
  have := numFrom_lt l 0 h
  simpa [numOf] using this

theorem numFrom_le : ∀ (l : List UInt8) (acc : Nat), acc ≤ numFrom acc l := by
  intro l
  induction l with
  | nil => intro acc; exact Nat.le_refl _
  | cons c r ih => intro acc; exact Nat.le_trans (by omega) (ih (acc * 10 + (c.toNat - 48)))

theorem parseUintM_ok : ∀ (l : List UInt8) (acc : Nat), l.all dig = true → numFrom acc l < 10000000000000000000 → Go.Lib.parseUintM 18446744073709551615 acc l = .ok (numFrom acc l) := by
  intro l
  induction l with
  | nil => intro acc _ _; rfl
  | cons c r ih =>
    intro acc h hlt
    simp only [List.all_cons, Bool.and_eq_true] at h
    have hc : 48 ≤ c.toNat ∧ c.toNat ≤ 57 := (dig_iff c).1 h.1
    have h1 := numFrom_le r (acc * 10 + (c.toNat - 48))
    have e : numFrom acc (c :: r) = numFrom (acc * 10 + (c.toNat - 48)) r := rfl
    rw [e] at hlt ⊢
    have h2 : acc * 10 + (c.toNat - 48) < 10000000000000000000 := Nat.lt_of_le_of_lt h1 hlt
    have e2 : Go.Lib.parseUintM 18446744073709551615 acc (c :: r) = Go.Lib.parseUintM 18446744073709551615 (acc * 10 + (c.toNat - 48)) r := by
      conv => lhs; unfold Go.Lib.parseUintM
      rw [if_pos hc, if_neg (by omega), if_neg (by omega)]
    rw [e2]
    exact ih _ h.2 hlt

theorem parseUintB_ok (l : List UInt8) (hne : l ≠ []) (h : l.all dig = true) (hl : l.length ≤ 19) : Go.Lib.parseUintB 64 l = .ok (numOf l) := by
  unfold Go.Lib.parseUintB
  rw [if_neg hne]
  refine parseUintM_ok l 0 h ?_
  have h1 := numOf_lt l h
  have h2 : 10 ^ l.length ≤ 10 ^ 19 := Nat.pow_le_pow_right (by decide) hl
  exact Nat.lt_of_lt_of_le h1 h2

/-- Digits behind the point as millionths. -/
def partF (l : List UInt8) : Nat := if l = [] then 0 else numOf l * 10 ^ (6 - l.length)

theorem partF_lt (l : List UInt8) (h : l.all dig = true) (hl : l.length ≤ 6) : partF l < 1000000 := by
  unfold partF
  split
  · omega
  · have h1 := numOf_lt l h
    have h2 : 10 ^ l.length * 10 ^ (6 - l.length) = 10 ^ 6 := by rw [← Nat.pow_add]; congr 1; omega
    have h3 := Nat.mul_lt_mul_of_pos_right h1 (Nat.pow_pos (n := 6 - l.length) (show 0 < 10 by omega))
    rw [h2] at h3
    exact h3
end Go.Proofs.YtjmljepndicdmaaDoor
