import Derived.Test.YtjmljepndicdmaaDoorT4
set_option linter.unusedVariables false
set_option linter.unusedSimpArgs false
namespace Go.Proofs.YtjmljepndicdmaaDoor
open Go.RowKit

theorem rtext_any (v : Int) (w : World) (h0 : -9223372036854775808 ≤ v) (h1 : v ≤ 9223372036854775807) (he : Env w) :
    Calls Tryd.prog 35 #[.int .i64 v] w fun e w' => e = .returned (.string (bs (textF v))) ∧ Below w.heap.size w w' := by
  have hb := absF_bd v h1
  have hnb := nrm_bd v h1
  have HS : Norm0 v (nrm v) := fun W => norm_any v W h0 h1
  have hq : absF v = if nrm v < 0 then - nrm v else nrm v := rfl
  have hsg : (nrm v < 0) = (v < 0) := by
    unfold nrm
    apply propext
    split <;> constructor <;> intro h <;> omega
  obtain ⟨n, hn⟩ : ∃ n : Nat, absF v = n := ⟨(absF v).toNat, by omega⟩
  have htn : (absF v).toNat = n := by omega
  have hn1 : n ≤ 9223372036854775807 := by omega
  unfold textF
  rw [htn]
  have hA : (bs (Lib.decDigits (n / 1000000))).size ≤ 13 := by
    rw [bs_size, Lib.decDigits_length]
    exact nDigits_le _ 13 (by decide) (by rw [show (10 : Nat) ^ 13 = 10000000000000 from rfl]; omega)
  have FA : FmtI0 (absF v / 1000000) (bs (Lib.decDigits (n / 1000000))) := fmtI _ _ (by rw [hn]; omega) (by omega)
  by_cases hr : n % 1000000 = 0
  · have := rtext_whole v (nrm v) (absF v) w _ hA he hnb.1 hnb.2 hq (Lib.hid HS) (Lib.hid FA) (by omega)
    rw [fracF, if_pos hr, List.append_nil]
    simp only [hsg] at this
    by_cases hv : v < 0
    · simp only [if_pos hv] at this ⊢
      rw [bs_app] at this
      exact this
    · simp only [if_neg hv] at this ⊢
      rw [List.nil_append]
      exact this
  · have hr6 : n % 1000000 < 1000000 := Nat.mod_lt _ (by decide)
    have hsix : (six (n % 1000000)).length = 6 := by simp [six]
    have FD : FmtI0 (absF v % 1000000 + 1000000) (bs (49 :: six (n % 1000000))) := by
      rw [← dec_seven _ hr6]
      exact fmtI _ _ (by rw [hn]; omega) (by omega)
    have ht0 : Lib.trimRightB (six (n % 1000000)) 48 ≠ [] := by
      have := (six_trim _ hr6 hr).1
      intro e; rw [e] at this; simp at this
    have := rtext_part v (nrm v) (absF v) w _ _ _ hsix rfl ht0 hA he hnb.1 hnb.2 hq (Lib.hid HS) (Lib.hid FA) _ rfl (by omega) (Lib.hid FD)
    rw [fracF, if_neg hr]
    simp only [hsg] at this
    by_cases hv : v < 0
    · simp only [if_pos hv] at this ⊢
      rw [bs_app, bs_app, bs_app] at this
      exact this
    · simp only [if_neg hv] at this ⊢
      rw [bs_app, bs_app] at this
      rw [List.nil_append]
      exact this

/-! ### digits -/
theorem drop_byte (s : ByteArray) (o k : Nat) (h : k < (s.data.toList.drop o).length) (h' : o + k < s.size) : (s.data.toList.drop o)[k] = s[o + k] := by
  rw [List.getElem_drop]
  exact list_byte s (o + k) (by simpa using h') h'

set_option maxHeartbeats 400000 in
theorem digits_any (s : ByteArray) (o : Nat) (w : World) (hs : s.size ≤ maxLen) (ho : o ≤ s.size) :
    Calls Tryd.prog 52 #[.string s, .int .i64 o] w fun e w' => e = .returned (.int .i64 (nDig (s.data.toList.drop o))) ∧ w' = w := by
  unfold maxLen at hs
  have hn := nDig_le (s.data.toList.drop o)
  have hl : (s.data.toList.drop o).length = s.size - o := by simp
  go_enter Tryd.func52, Tryd.ntmps52
  go_wp2
  go_loop [5] (fun i => ∃ k : Nat, k ≤ nDig (s.data.toList.drop o) ∧ i = .int .i64 k) (fun i => s.size - (intOf i).toNat)
  case atStart => exact ⟨0, Nat.zero_le _, rfl⟩
  case round =>
    obtain ⟨k, hk, rfl⟩ := hrel
    by_cases hlt : k < nDig (s.data.toList.drop o)
    · obtain ⟨h1, h2⟩ := nDig_at (s.data.toList.drop o) k hlt
      have h3 : o + k < s.size := by omega
      rw [drop_byte s o k h1 h3] at h2
      have h4 := (dig_iff _).1 h2
      have h5 : 48 ≤ (s[o + k].toNat : Int) := by omega
      have h6 : (s[o + k].toNat : Int) ≤ 57 := by omega
      clear h2 h4
      go_wp2
      go_round
      case rel => exact ⟨k + 1, by omega, by go_num⟩
      case measure => simp [intOf]; omega
    · have hk' : k = nDig (s.data.toList.drop o) := by omega
      have fin : Hid ((k : Int) = (nDig (s.data.toList.drop o) : Nat)) := Lib.hid (by omega)
      by_cases h3 : o + k < s.size
      · have h2 := nDig_stop (s.data.toList.drop o) (by omega)
        have h2' : dig s[o + k] = false := by
          have := drop_byte s o k (by omega) h3
          rw [← this]; simpa only [← hk'] using h2
        have h4 : (s[o + k].toNat : Int) < 48 ∨ 57 < (s[o + k].toNat : Int) := by
          have : ¬ (48 ≤ s[o + k].toNat ∧ s[o + k].toNat ≤ 57) := fun h => by rw [(dig_iff _).2 h] at h2'; cases h2'
          omega
        clear h2 h2' hk' hlt hn
        rcases h4 with h4 | h4
        all_goals
          go_wp2
          go_ret
          exact ⟨ret_i64 (by rw [fin.out]), rfl⟩
      · have h7 : s.size ≤ o + k := by omega
        have h8 : o + k ≤ s.size := by omega
        clear hk' hlt hn
        go_wp2
        go_ret
        exact ⟨ret_i64 (by rw [fin.out]), rfl⟩
end Go.Proofs.YtjmljepndicdmaaDoor
