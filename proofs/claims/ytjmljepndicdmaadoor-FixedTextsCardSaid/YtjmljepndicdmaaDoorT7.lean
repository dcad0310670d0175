import Derived.Test.YtjmljepndicdmaaDoorT6
set_option linter.unusedVariables false
set_option linter.unusedSimpArgs false
namespace Go.Proofs.YtjmljepndicdmaaDoor
open Go.RowKit

set_option maxHeartbeats 1600000 in
theorem rp_c1 (s : ByteArray) (w : World) (X : Int × Int) (o n : Nat) (W k : Int) (hs : s.size ≤ maxLen) (hh : Head s o) (HD : Hid (Dig0 s o n)) (hn1 : 1 ≤ n) (hn2 : n ≤ 13) (hon2 : o + n < s.size) (hw : WholeOk s o n)
    (HN : Hid (∀ t, t = s.extract o (o + n) → PI0 t W)) (HK : Hid (∀ p : Int, p = o + n + 1 → Dig0 s p k)) (hk0 : 0 ≤ k) (hk1 : o + n + 1 + k ≤ s.size)
    (hbad : (∃ h : o + n < s.size, ((s[o + n].toNat : Int) < 46 ∨ 46 < (s[o + n].toNat : Int))) ∨ ((∃ h : o + n < s.size, (s[o + n].toNat : Int) = 46) ∧ (k < 1 ∨ 6 < k ∨ (1 ≤ k ∧ k ≤ 6 ∧ o + n + 1 + k < s.size))))
    (hX : Hid (X = (0, 3))) :
    Calls Tryd.prog 34 #[.string s] w (RPost X w) := by
  unfold maxLen at hs
  rcases hh with ⟨rfl, h0, h1⟩ | ⟨rfl, h0, h1⟩ <;> rcases hw with hw | ⟨hw, h2, h3⟩
  all_goals
    try simp only [Nat.zero_add] at hbad
    try simp only [Nat.zero_add] at hon2
    go_enter Tryd.func34, Tryd.ntmps34
    go_wp2_with fail
    refine (HD.out _).mono ?_
    rintro e w' ⟨rfl, rfl⟩
    go_wp2_with fail
    refine (HN.out _ (by first | rfl | simp) _).mono ?_
    rintro e w1 ⟨rfl, hb⟩
    go_wp2_with fail
    refine (HK.out _ (by omega) _).mono ?_
    rintro e w' ⟨rfl, rfl⟩
    rcases hbad with ⟨h4, h5 | h5⟩ | ⟨⟨h4, h5⟩, h6 | h6 | ⟨h6, h7, h8⟩⟩
    all_goals go_wp2_with fail
    all_goals first
      | (exfalso; simp only [bne_eq_false_iff_eq] at *; omega)
      | (go_ret2; exact rpost hX.out hb)

end Go.Proofs.YtjmljepndicdmaaDoor
