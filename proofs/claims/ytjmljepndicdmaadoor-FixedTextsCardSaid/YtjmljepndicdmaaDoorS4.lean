import Derived.Test.YtjmljepndicdmaaDoorS0
import Derived.Test.YtjmljepndicdmaaDoorS3
import Derived.Lib.Strings
set_option linter.unusedVariables false
set_option linter.unusedSimpArgs false
namespace Go.Proofs.YtjmljepndicdmaaDoor

/-- What a number's parts come to. -/
def finF (m : Bool) (n : Nat) : Int × Int := if 9223372036854775807 < n then (0, 1) else (if m then -(n : Int) else n, 0)
def badWhole (a : List UInt8) : Bool := decide (a.length < 1) || decide (13 < a.length) || (decide (1 < a.length) && a.head? == some 48)
def badPart (d e : List UInt8) : Bool := !e.isEmpty || decide (d.length < 1) || decide (6 < d.length)
/-- Parse behind the sign, the digits taken off. -/
def tailF (m : Bool) (a : List UInt8) : List UInt8 → Int × Int
  | [] => finF m (numOf a * 1000000)
  | c :: t => if c ≠ 46 then (0, 3) else if badPart (t.takeWhile dig) (t.dropWhile dig) then (0, 3) else finF m (numOf a * 1000000 + partF (t.takeWhile dig))
def restF (m : Bool) (r : List UInt8) : Int × Int := if badWhole (r.takeWhile dig) then (0, 3) else tailF m (r.takeWhile dig) (r.dropWhile dig)
def parseF (l : List UInt8) : Int × Int := restF (Go.Lib.hasPrefix l [45]) (Go.Lib.trimPrefix l [45])

theorem sgn_fin (m : Bool) (n : Nat) (h : n ≤ 9223372036854775807) : sgnF n m false = (if m then -(n : Int) else n) := by
  unfold sgnF
  cases m
  · simp; omega
  · simp; omega
theorem takeWhile_all (l : List UInt8) : (l.takeWhile dig).all dig = true := by
  induction l with
  | nil => rfl
  | cons c l ih =>
    rw [List.takeWhile_cons]
    split
    · rename_i h; simp only [List.all_cons, h, Bool.true_and]; exact ih
    · rfl
theorem whole_lt (r : List UInt8) (h : (r.takeWhile dig).length ≤ 13) : numOf (r.takeWhile dig) < 10000000000000 := by
  have h1 := numOf_lt _ (takeWhile_all r)
  have h2 : 10 ^ (r.takeWhile dig).length ≤ 10 ^ 13 := Nat.pow_le_pow_right (by decide) h
  exact Nat.lt_of_lt_of_le h1 h2
theorem badWhole_no {a : List UInt8} (h : badWhole a = false) : 1 ≤ a.length ∧ a.length ≤ 13 ∧ (a.length = 1 ∨ (1 < a.length ∧ a.head? ≠ some 48)) := by
  simp only [badWhole, Bool.or_eq_false_iff, Bool.and_eq_false_iff, decide_eq_false_iff_not, beq_eq_false_iff_ne] at h
  obtain ⟨⟨h1, h2⟩, h3⟩ := h
  refine ⟨by omega, by omega, ?_⟩
  by_cases h4 : a.length = 1
  · exact .inl h4
  · rcases h3 with h3 | h3
    · omega
    · exact .inr ⟨by omega, h3⟩
theorem badPart_no {d e : List UInt8} (h : badPart d e = false) : e = [] ∧ 1 ≤ d.length ∧ d.length ≤ 6 := by
  simp only [badPart, Bool.or_eq_false_iff, decide_eq_false_iff_not] at h
  obtain ⟨⟨h1, h2⟩, h3⟩ := h
  exact ⟨by simpa using h1, by omega, by omega⟩
end Go.Proofs.YtjmljepndicdmaaDoor
