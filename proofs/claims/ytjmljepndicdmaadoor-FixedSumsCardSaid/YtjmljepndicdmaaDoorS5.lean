import Derived.Test.YtjmljepndicdmaaDoorA6
set_option linter.unusedVariables false
set_option linter.unusedSimpArgs false
namespace Go.Proofs.YtjmljepndicdmaaDoor

theorem sgnF_abs (q : Int) (m o : Bool) (h : 0 ≤ q) : absF (sgnF q m o) = if o = false ∧ q < 9223372036854775807 then q else 9223372036854775807 := by
  unfold sgnF absF nrm
  cases m <;> cases o <;> simp <;> (repeat' split) <;> omega
theorem sgnF_pos (q : Int) (o : Bool) (h : 0 ≤ q) : 0 ≤ sgnF q false o := by
  unfold sgnF; cases o <;> simp <;> (repeat' split) <;> omega
theorem sgnF_neg (q : Int) (o : Bool) (h : 0 ≤ q) : sgnF q true o ≤ 0 := by
  unfold sgnF; cases o <;> simp <;> (repeat' split) <;> omega

/-- The size of a quotient. -/
def capN (n : Nat) : Int := if n < 9223372036854775807 then n else 9223372036854775807
theorem abs_scaled (a b c : Nat) (m : Bool) : absF (sgnF (scQ a b c) m (scO a b c)) = capN (a * b / c) := by
  rw [sgnF_abs _ _ _ (by omega)]
  unfold scQ scO capN
  generalize a * b / c = n
  by_cases h : 18446744073709551616 ≤ n
  · simp [h]; omega
  · simp [h]
    (repeat' split) <;> omega
theorem capN_mono {a b : Nat} (h : a ≤ b) : capN a ≤ capN b := by
  unfold capN; (repeat' split) <;> omega

theorem absF_pos (b : Int) (h : b ≠ 0) : 0 < absF b := by
  unfold absF nrm; repeat' split
  all_goals omega

theorem div_mono (a b c : Int) (hb : b ≠ 0) (hc : absF b ≤ absF c) : absF (divF a c) ≤ absF (divF a b) := by
  unfold divF
  rw [abs_scaled, abs_scaled]
  apply capN_mono
  apply Nat.div_le_div_left
  · omega
  · have := absF_pos b hb; omega

theorem mulF_bd (a b : Int) : -9223372036854775807 ≤ mulF a b ∧ mulF a b ≤ 9223372036854775807 := sgnF_bd _ _ _ (by omega)
theorem divF_bd (a b : Int) : -9223372036854775807 ≤ divF a b ∧ divF a b ≤ 9223372036854775807 := sgnF_bd _ _ _ (by omega)
theorem mulF_sign (a b : Int) : ((a < 0 ↔ b < 0) → 0 ≤ mulF a b) ∧ (¬ (a < 0 ↔ b < 0) → mulF a b ≤ 0) := by
  unfold mulF
  constructor
  · intro h
    have : (decide (a < 0) != decide (b < 0)) = false := by simp [h]
    rw [this]; exact sgnF_pos _ _ (by omega)
  · intro h
    have : (decide (a < 0) != decide (b < 0)) = true := by simp; exact fun e => h (by rw [e])
    rw [this]; exact sgnF_neg _ _ (by omega)
theorem divF_sign (a b : Int) : ((a < 0 ↔ b < 0) → 0 ≤ divF a b) ∧ (¬ (a < 0 ↔ b < 0) → divF a b ≤ 0) := by
  unfold divF
  constructor
  · intro h
    have : (decide (a < 0) != decide (b < 0)) = false := by simp [h]
    rw [this]; exact sgnF_pos _ _ (by omega)
  · intro h
    have : (decide (a < 0) != decide (b < 0)) = true := by simp; exact fun e => h (by rw [e])
    rw [this]; exact sgnF_neg _ _ (by omega)

theorem cmp_anti (a b : Int) : cmpF a b = - cmpF b a := by
  unfold cmpF; (repeat' split) <;> omega
theorem sat_mono {x y : Int} (h : x ≤ y) : sat x ≤ sat y := by
  unfold sat; (repeat' split) <;> omega
theorem cmp_add (a b c : Int) (h : cmpF a b < 0) : addF a c ≤ addF b c := by
  have : nrm a < nrm b := by
    unfold cmpF at h
    split at h
    · assumption
    · split at h <;> omega
  exact sat_mono (by omega)
theorem add_comm' (a b : Int) : addF a b = addF b a := by unfold addF; rw [Int.add_comm]
theorem mul_comm' (a b : Int) : mulF a b = mulF b a := by
  unfold mulF scQ scO
  rw [Nat.mul_comm (absF a).toNat]
  congr 1
  cases decide (a < 0) <;> cases decide (b < 0) <;> rfl
theorem mul_one' (a : Int) (h1 : a ≤ 9223372036854775807) : mulF a 1000000 = nrm a := by
  have hb := absF_bd a h1
  have e : absF 1000000 = 1000000 := absF_nn _ (by omega)
  have e2 : (absF a).toNat * 1000000 / 1000000 = (absF a).toNat := Nat.mul_div_cancel _ (by decide)
  have e3 : scQ (absF a).toNat 1000000 1000000 = (absF a).toNat := by
    unfold scQ; rw [e2, if_neg (by omega)]
  have e4 : scO (absF a).toNat 1000000 1000000 = false := by
    unfold scO; rw [e2]; exact decide_eq_false (by omega)
  have e5 : (decide (a < 0) != decide ((1000000 : Int) < 0)) = decide (a < 0) := by cases decide (a < 0) <;> rfl
  unfold mulF
  rw [e, e5]
  rw [show ((1000000 : Int).toNat) = 1000000 from rfl, e3, e4]
  rw [show (((absF a).toNat : Nat) : Int) = absF a by omega]
  by_cases ha : a < 0
  · rw [decide_eq_true ha]
    have := absF_neg a ha
    unfold negF at this
    unfold sgnF
    rw [if_pos rfl]
    have hb2 := nrm_bd a h1
    clear e e2 e3 e4 e5
    by_cases hx : absF a < 9223372036854775807
    · rw [if_pos ⟨rfl, hx⟩]; omega
    · rw [if_neg (fun h => hx h.2)]; omega
  · rw [decide_eq_false ha]
    have h2 := absF_nn a (by omega)
    have h3 := nrm_id a (by omega)
    unfold sgnF
    simp
    split <;> omega
theorem neg_neg' (a : Int) (h1 : a ≤ 9223372036854775807) : negF (negF a) = nrm a := by
  have := nrm_bd a h1
  unfold negF
  rw [nrm_id (- nrm a) (by omega)]; omega
end Go.Proofs.YtjmljepndicdmaaDoor
