set_option linter.unusedVariables false
set_option linter.unusedSimpArgs false
namespace Go.Proofs.YtjmljepndicdmaaDoor

/-- A number as it is taken. -/
def nrm (a : Int) : Int := if a < -9223372036854775807 then -9223372036854775807 else a
/-- Saturating. -/
def sat (x : Int) : Int := if 9223372036854775807 < x then 9223372036854775807 else if x < -9223372036854775807 then -9223372036854775807 else x
def addF (a b : Int) : Int := sat (nrm a + nrm b)
def negF (a : Int) : Int := - nrm a
def absF (a : Int) : Int := if nrm a < 0 then - nrm a else nrm a
def cmpF (a b : Int) : Int := if nrm a < nrm b then -1 else if nrm b < nrm a then 1 else 0

theorem nrm_bd (a : Int) (h : a ≤ 9223372036854775807) : -9223372036854775807 ≤ nrm a ∧ nrm a ≤ 9223372036854775807 := by
  unfold nrm; split <;> omega
theorem nrm_id (a : Int) (h : -9223372036854775807 ≤ a) : nrm a = a := by unfold nrm; split <;> omega
theorem sat_bd (x : Int) : -9223372036854775807 ≤ sat x ∧ sat x ≤ 9223372036854775807 := by
  unfold sat; split
  · omega
  · split <;> omega
theorem sat_id (x : Int) (h : -9223372036854775807 ≤ x) (h' : x ≤ 9223372036854775807) : sat x = x := by
  unfold sat; split
  · omega
  · split <;> omega
theorem sat_hi (x : Int) (h : 9223372036854775807 < x) : sat x = 9223372036854775807 := by
  unfold sat; rw [if_pos h]
theorem sat_lo (x : Int) (h : x < -9223372036854775807) : sat x = -9223372036854775807 := by
  unfold sat; rw [if_neg (by omega), if_pos h]
theorem addF_bd (a b : Int) : -9223372036854775807 ≤ addF a b ∧ addF a b ≤ 9223372036854775807 := sat_bd _
theorem negF_bd (a : Int) (h : a ≤ 9223372036854775807) : -9223372036854775807 ≤ negF a ∧ negF a ≤ 9223372036854775807 := by
  have := nrm_bd a h; unfold negF; omega
theorem absF_bd (a : Int) (h : a ≤ 9223372036854775807) : 0 ≤ absF a ∧ absF a ≤ 9223372036854775807 := by
  have := nrm_bd a h; unfold absF; split <;> omega
theorem absF_nrm (a : Int) : absF (nrm a) = absF a := by
  have : nrm (nrm a) = nrm a := by unfold nrm; split <;> (try split) <;> omega
  unfold absF; rw [this]
theorem tdiv_bd (x : Int) (h : -9223372036854775807 ≤ x) (h' : x ≤ 9223372036854775807) : -9223372036854775807 ≤ x.tdiv 1000000 ∧ x.tdiv 1000000 ≤ 9223372036854775807 := by
  by_cases hx : 0 ≤ x
  · rw [Int.tdiv_eq_ediv_of_nonneg hx]; omega
  · have e : x.tdiv 1000000 = - ((-x).tdiv 1000000) := by rw [Int.neg_tdiv]; omega
    rw [e, Int.tdiv_eq_ediv_of_nonneg (by omega)]; omega
theorem absF_neg (a : Int) (h : a < 0) : absF a = negF a := by
  unfold absF negF nrm; repeat' split
  all_goals omega
theorem absF_nn (a : Int) (h : 0 ≤ a) : absF a = a := by
  unfold absF nrm; repeat' split
  all_goals omega
/-- A size with a sign. -/
def sgnF (q : Int) (minus over : Bool) : Int :=
  if minus then (if over = false ∧ q < 9223372036854775807 then - q else -9223372036854775807) else (if over = false ∧ q < 9223372036854775807 then q else 9223372036854775807)
theorem sgnF_bd (q : Int) (minus over : Bool) (h : 0 ≤ q) : -9223372036854775807 ≤ sgnF q minus over ∧ sgnF q minus over ≤ 9223372036854775807 := by
  unfold sgnF; (repeat' split) <;> omega
def foldF (l : List Int) : Int := l.foldl addF 0
theorem foldF_snoc (l : List Int) (x : Int) : foldF (l ++ [x]) = addF (foldF l) x := by
  unfold foldF; rw [List.foldl_append]; rfl
theorem foldF_bd (l : List Int) : -9223372036854775807 ≤ foldF l ∧ foldF l ≤ 9223372036854775807 := by
  unfold foldF
  have : ∀ (l : List Int) (z : Int), (-9223372036854775807 ≤ z ∧ z ≤ 9223372036854775807) → -9223372036854775807 ≤ l.foldl addF z ∧ l.foldl addF z ≤ 9223372036854775807 := by
    intro l
    induction l with
    | nil => intro z hz; exact hz
    | cons x l ih => intro z _; exact ih _ (addF_bd z x)
  exact this l 0 (by omega)
end Go.Proofs.YtjmljepndicdmaaDoor
