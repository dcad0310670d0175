set_option linter.unusedVariables false
set_option linter.unusedSimpArgs false
namespace Go.Proofs.YtjmljepndicdmaaDoor

def dig (c : UInt8) : Bool := decide (48 ≤ c.toNat) && decide (c.toNat ≤ 57)
theorem dig_iff (c : UInt8) : dig c = true ↔ 48 ≤ c.toNat ∧ c.toNat ≤ 57 := by simp [dig]
/-- How many digits stand at the beginning. -/
def nDig (l : List UInt8) : Nat := (l.takeWhile dig).length

theorem nDig_le (l : List UInt8) : nDig l ≤ l.length := (List.takeWhile_sublist _).length_le

theorem nDig_at (l : List UInt8) : ∀ k, k < nDig l → ∃ h : k < l.length, dig l[k] = true := by
  induction l with
  | nil => intro k h; simp [nDig] at h
  | cons c l ih =>
    intro k h
    by_cases hc : dig c
    · cases k with
      | zero => exact ⟨by simp, hc⟩
      | succ k =>
        have : k < nDig l := by simp [nDig, hc] at h; exact h
        obtain ⟨h1, h2⟩ := ih k this
        exact ⟨by simp; omega, by simpa using h2⟩
    · simp [nDig, hc] at h

theorem nDig_stop (l : List UInt8) (h : nDig l < l.length) : dig l[nDig l] = false := by
  induction l with
  | nil => simp at h
  | cons c l ih =>
    by_cases hc : dig c
    · have e : nDig (c :: l) = nDig l + 1 := by simp [nDig, hc]
      have : (c :: l)[nDig (c :: l)] = l[nDig l]'(by rw [e] at h; simp at h; exact h) := by
        simp [e]
      rw [this]
      exact ih _
    · have e : nDig (c :: l) = 0 := by simp [nDig, hc]
      have : (c :: l)[nDig (c :: l)] = c := by simp [e]
      rw [this]; simpa using hc

theorem take_nDig (l : List UInt8) : l.take (nDig l) = l.takeWhile dig := by
  have h : (l.takeWhile dig ++ l.dropWhile dig).take (l.takeWhile dig).length = l.takeWhile dig := List.take_left
  rwa [List.takeWhile_append_dropWhile] at h

theorem drop_nDig (l : List UInt8) : l.drop (nDig l) = l.dropWhile dig := by
  have h : (l.takeWhile dig ++ l.dropWhile dig).drop (l.takeWhile dig).length = l.dropWhile dig := List.drop_left
  rwa [List.takeWhile_append_dropWhile] at h
end Go.Proofs.YtjmljepndicdmaaDoor
