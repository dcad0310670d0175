import Derived.Test.YtjmljepndicdmaaDoorT6
set_option linter.unusedVariables false
set_option linter.unusedSimpArgs false
namespace Go.Proofs.YtjmljepndicdmaaDoor
open Go.RowKit

set_option maxHeartbeats 3200000 in
theorem rp_c (s : ByteArray) (w : World) (X : Int × Int) (o n k : Nat) (W P : Int) (Q : Nat) (hs : s.size ≤ maxLen) (hh : Head s o) (HD : Hid (Dig0 s o n)) (hn1 : 1 ≤ n) (hn2 : n ≤ 13) (hon2 : o + n < s.size) (hw : WholeOk s o n)
    (HN : Hid (∀ t, t = s.extract o (o + n) → PI0 t W)) (HK : Hid (∀ p : Int, p = o + n + 1 → Dig0 s p k)) (hk1 : o + n + 1 + k ≤ s.size) (hk2 : s.size ≤ o + n + 1 + k)
    (h46 : ∃ h : o + n < s.size, (s[o + n].toNat : Int) = 46) (hk3 : 1 ≤ k) (hk4 : k ≤ 6)
    (HP : Hid (∀ t, t = s.extract (o + n + 1) s.size → PI0 t Q)) (hQ : Hid ((Q * 10 ^ (6 - k) : Nat) = P)) (hP0 : 0 ≤ P) (hP : P < 1000000)
    (hW0 : 0 ≤ W) (hW1 : W < 10000000000000) (hf : FinX o W P X) :
    Calls Tryd.prog 34 #[.string s] w (RPost X w) := by
  unfold maxLen at hs
  obtain ⟨h4, h5⟩ := h46
  rcases hh with ⟨rfl, h0, h1⟩ | ⟨rfl, h0, h1⟩ <;> rcases hw with hw | ⟨hw, h2, h3⟩
  all_goals
    try simp only [Nat.zero_add] at h4
    try simp only [Nat.zero_add] at h5
    go_enter Tryd.func34, Tryd.ntmps34
    go_wp2_with fail
    refine (HD.out _).mono ?_
    rintro e w' ⟨rfl, rfl⟩
    go_wp2_with fail
    refine (HN.out _ (by first | rfl | simp) _).mono ?_
    rintro e w1 ⟨rfl, hb⟩
    go_wp2_with fail
    refine (HK.out _ (by omega) _).mono ?_
    rintro e w' ⟨rfl, rfl⟩
    go_wp2_with fail
    all_goals try (exfalso; rename_i hc; simp only [bne_iff_ne] at hc; omega)
    refine (HP.out _ (by first | rfl | simp) _).mono ?_
    rintro e w3 ⟨rfl, hb2⟩
    have B := Lib.hid (hb.trans (hb2.mono hb.size))
    go_wp2_with fail
    clear HD HN HK HP h1 hw
    try clear h3
    try clear h5
    go_loop [9, 10] (fun p i => ∃ j q : Nat, j ≤ 6 ∧ p = .int .i64 q ∧ i = .int .i64 j ∧ Hid ((q * 10 ^ (6 - j) : Nat) = P)) (fun _ i => 6 - (intOf i).toNat)
    case atStart => exact ⟨k, Q, hk4, rfl, rfl, hQ⟩
    case round =>
      obtain ⟨j, q, hj, rfl, rfl, HQ⟩ := hrel
      by_cases hlt : j < 6
      · have hq : q < 1000000 := by
          have h1 := HQ.out
          have h2 : q * 1 ≤ q * 10 ^ (6 - j) := Nat.mul_le_mul_left q (Nat.one_le_pow _ _ (by decide))
          omega
        go_wp2
        go_round
        case rel =>
          refine ⟨j + 1, 10 * q, by omega, ?_, by go_num, ?_⟩
          · congr 1
          · refine Lib.hid ?_
            rw [← HQ.out, show 6 - j = (6 - (j + 1)) + 1 by omega, Nat.pow_succ, Nat.mul_comm 10 q, Nat.mul_assoc, Nat.mul_comm (10 ^ _) 10]
        case measure => simp [intOf]; omega
      · have hj6 : 6 ≤ j := by omega
        have hqP : (q : Int) = P := by
          have h1 := HQ.out
          rw [show 6 - j = 0 by omega, Nat.pow_zero, Nat.mul_one] at h1
          exact h1
        clear hlt HQ hQ
        rw [hqP]
        clear hqP
        rcases hf with ⟨hf | ⟨rfl, hf⟩, hX⟩ | ⟨hf | ⟨rfl, hf⟩, hX⟩
        all_goals go_wp2_with fail
        all_goals go_ret2
        all_goals first
          | exact rpost hX.out B.out
          | exact rpost (hX.out.trans (by simp)) B.out
end Go.Proofs.YtjmljepndicdmaaDoor
