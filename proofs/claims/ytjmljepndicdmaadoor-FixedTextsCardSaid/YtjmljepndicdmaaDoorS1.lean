set_option linter.unusedVariables false
set_option linter.unusedSimpArgs false
namespace Go.Proofs.YtjmljepndicdmaaDoor

/-- Knuth's step, two digits: what holds at the head of the loop that mends the guess. -/
structure KInv (v n1 n0 u32 u1 q r : Nat) : Prop where
  sum : q * n1 + r = u32
  rlt : r < 4294967296
  qle : q ≤ 4294967297
  up : u32 * 4294967296 + u1 < (q + 1) * v

theorem KInv.start (v n1 n0 u32 u1 : Nat) (hv : v = n1 * 4294967296 + n0) (h1 : 2147483648 ≤ n1) (h1' : n1 < 4294967296) (h0 : n0 < 4294967296) (hu : u32 < v) (hu1 : u1 < 4294967296) :
    KInv v n1 n0 u32 u1 (u32 / n1) (u32 - u32 / n1 * n1) := by
  have hm := Nat.div_add_mod u32 n1
  have hlt := Nat.mod_lt u32 (show 0 < n1 by omega)
  have hc : n1 * (u32 / n1) = u32 / n1 * n1 := Nat.mul_comm _ _
  have hs : (u32 / n1 + 1) * v = u32 / n1 * v + v := Nat.succ_mul _ _
  have hq : u32 / n1 * v = u32 / n1 * n1 * 4294967296 + u32 / n1 * n0 := by rw [hv, Nat.mul_add, Nat.mul_assoc]
  refine ⟨by omega, by omega, ?_, ?_⟩
  · have : u32 / n1 < 4294967298 := by
      apply Nat.div_lt_of_lt_mul
      have : n1 * 4294967298 = n1 * 4294967296 + n1 * 2 := by omega
      omega
    omega
  · rw [hs, hq]; omega

theorem KInv.gt (v n1 n0 u32 u1 q r : Nat) (hv : v = n1 * 4294967296 + n0) (hu : u32 < v) (hu1 : u1 < 4294967296) (h : KInv v n1 n0 u32 u1 q r)
    (ht : 4294967296 ≤ q ∨ r * 4294967296 + u1 < q * n0) : u32 * 4294967296 + u1 < q * v := by
  have hq : q * v = q * n1 * 4294967296 + q * n0 := by rw [hv, Nat.mul_add, Nat.mul_assoc]
  have hs := h.sum
  rcases ht with ht | ht
  · have h2 : v * 4294967296 ≤ v * q := Nat.mul_le_mul_left v ht
    rw [Nat.mul_comm v q] at h2
    have h3 : (u32 + 1) * 4294967296 ≤ v * 4294967296 := Nat.mul_le_mul_right _ hu
    have h4 := Nat.le_trans h3 h2
    rw [Nat.succ_mul] at h4
    exact Nat.lt_of_lt_of_le (Nat.add_lt_add_left hu1 _) h4
  · rw [hq, ← hs, Nat.add_mul, Nat.add_assoc]
    exact Nat.add_lt_add_left ht _

theorem KInv.le (v n1 n0 u32 u1 q r : Nat) (hv : v = n1 * 4294967296 + n0) (h : KInv v n1 n0 u32 u1 q r)
    (ht : q * n0 ≤ r * 4294967296 + u1) : q = (u32 * 4294967296 + u1) / v := by
  have hq : q * v = q * n1 * 4294967296 + q * n0 := by rw [hv, Nat.mul_add, Nat.mul_assoc]
  have hs := h.sum
  have := h.up
  symm
  apply Nat.div_eq_of_lt_le
  · omega
  · exact this

theorem KInv.pos (v u32 u1 q : Nat) (hg : u32 * 4294967296 + u1 < q * v) : 1 ≤ q := by
  rcases Nat.eq_zero_or_pos q with h | h
  · subst h; omega
  · exact h

theorem KInv.step (v n1 n0 u32 u1 q r : Nat) (h : KInv v n1 n0 u32 u1 q r) (hg : u32 * 4294967296 + u1 < q * v) (hr : r + n1 < 4294967296) :
    KInv v n1 n0 u32 u1 (q - 1) (r + n1) := by
  have hp := KInv.pos v u32 u1 q hg
  obtain ⟨p, rfl⟩ : ∃ p, q = p + 1 := ⟨q - 1, by omega⟩
  have hs := h.sum
  have : (p + 1) * n1 = p * n1 + n1 := Nat.succ_mul _ _
  have := h.qle
  exact ⟨by simp; omega, hr, by omega, by simpa using hg⟩

theorem KInv.out (v n1 n0 u32 u1 q r : Nat) (hv : v = n1 * 4294967296 + n0) (h0 : n0 < 4294967296) (h : KInv v n1 n0 u32 u1 q r) (hg : u32 * 4294967296 + u1 < q * v) (hr : 4294967296 ≤ r + n1) :
    q - 1 = (u32 * 4294967296 + u1) / v := by
  have hp := KInv.pos v u32 u1 q hg
  obtain ⟨p, rfl⟩ : ∃ p, q = p + 1 := ⟨q - 1, by omega⟩
  have hs := h.sum
  have e1 : (p + 1) * n1 = p * n1 + n1 := Nat.succ_mul _ _
  have hq : p * v = p * n1 * 4294967296 + p * n0 := by rw [hv, Nat.mul_add, Nat.mul_assoc]
  have hl := h.qle
  have hz : p * n0 ≤ 4294967296 * 4294967295 := Nat.mul_le_mul (by omega) (by omega)
  symm
  simp only [Nat.add_sub_cancel]
  apply Nat.div_eq_of_lt_le
  · omega
  · exact hg

/-- The quotient of the first step fits a digit. -/
theorem kq_lt (v u32 u1 : Nat) (hu : u32 < v) (hu1 : u1 < 4294967296) : (u32 * 4294967296 + u1) / v < 4294967296 := by
  apply Nat.div_lt_of_lt_mul
  omega

/-- Two steps make the whole quotient. -/
theorem two_steps (v U : Nat) (hv : 0 < v) :
    U / v = (U / 4294967296) / v * 4294967296 + ((U / 4294967296) % v * 4294967296 + U % 4294967296) / v ∧
    U % v = ((U / 4294967296) % v * 4294967296 + U % 4294967296) % v := by
  have e : U = v * ((U / 4294967296) / v * 4294967296) + ((U / 4294967296) % v * 4294967296 + U % 4294967296) := by
    have h1 := Nat.div_add_mod U 4294967296
    have h2 := Nat.div_add_mod (U / 4294967296) v
    have h3 : v * (U / 4294967296 / v * 4294967296) = v * (U / 4294967296 / v) * 4294967296 := (Nat.mul_assoc _ _ _).symm
    omega
  refine ⟨?_, ?_⟩
  · conv => lhs; rw [e]
    rw [Nat.mul_add_div hv]
  · conv => lhs; rw [e]
    rw [Nat.mul_add_mod]
end Go.Proofs.YtjmljepndicdmaaDoor
