import Derived.Test.YtjmljepndicdmaaDoorA1
import Derived.Test.YtjmljepndicdmaaDoorS2
import Derived.Deep.QuietTactic
import Derived.BigQuiet
set_option linter.unusedVariables false
set_option linter.unusedSimpArgs false
namespace Go.Proofs.YtjmljepndicdmaaDoor
open Go.RowKit

theorem list_byte (s : ByteArray) (k : Nat) (h : k < s.data.toList.length) (h' : k < s.size) : s.data.toList[k] = s[k] := by
  simp only [Array.getElem_toList]; rfl
theorem extract_take (s : ByteArray) (k : Nat) : s.extract 0 k = ⟨(s.data.toList.take k).toArray⟩ := by
  apply ByteArray.ext
  apply Array.toList_inj.1
  rw [ByteArray.data_extract]
  simp
theorem tuple2' {a b c d : ByteArray} (h : a = c) (h' : b = d) : Ending.returned (.tuple #[.string a, .string b]) = .returned (.tuple #[.string c, .string d]) := by rw [h, h']
theorem extract_drop (s : ByteArray) (k : Nat) : s.extract k s.size = ⟨(s.data.toList.drop k).toArray⟩ := by
  apply ByteArray.ext
  apply Array.toList_inj.1
  rw [ByteArray.data_extract]
  simp [List.take_of_length_le]

set_option maxHeartbeats 400000 in
theorem run_any (s : ByteArray) (w : World) (hs : s.size ≤ maxLen) :
    Calls Tryd.prog 49 #[.string s] w fun e w' => e = .returned (.tuple #[.string ⟨(s.data.toList.takeWhile dig).toArray⟩, .string ⟨(s.data.toList.dropWhile dig).toArray⟩]) ∧ ∃ n, w' = w.drewN n := by
  unfold maxLen at hs
  have hn := nDig_le s.data.toList
  go_enter Tryd.func49, Tryd.ntmps49
  go_wp2
  go_step3
  go_wp2
  go_step3
  go_wp2
  go_loop [4] (fun i => ∃ k : Nat, k ≤ nDig s.data.toList ∧ i = .int .i64 k) (fun i => s.size - (intOf i).toNat)
  case atStart => exact ⟨0, Nat.zero_le _, rfl⟩
  case round =>
    obtain ⟨k, hk, rfl⟩ := hrel
    have hl : s.data.toList.length = s.size := by simp
    by_cases hlt : k < nDig s.data.toList
    · obtain ⟨h1, h2⟩ := nDig_at s.data.toList k hlt
      have h3 : k < s.size := by omega
      rw [list_byte s k h1 h3] at h2
      have h4 := (dig_iff _).1 h2
      have h5 : 48 ≤ (s[k].toNat : Int) := by omega
      have h6 : (s[k].toNat : Int) ≤ 57 := by omega
      clear h2 h4
      go_wp2
      go_round
      case rel => exact ⟨k + 1, by omega, by go_num⟩
      case measure => simp [intOf]; omega
    · have hk' : k = nDig s.data.toList := by omega
      have fin1 : Hid (s.extract 0 k = ⟨(s.data.toList.takeWhile dig).toArray⟩) := Lib.hid (by rw [extract_take, hk', take_nDig])
      have fin2 : Hid (s.extract k s.size = ⟨(s.data.toList.dropWhile dig).toArray⟩) := Lib.hid (by rw [extract_drop, hk', drop_nDig])
      by_cases h3 : k < s.size
      · have h2 := nDig_stop s.data.toList (by omega)
        have h2' : dig s[k] = false := by
          have := list_byte s k (by omega) h3
          rw [← this]; simpa only [← hk'] using h2
        have h4 : (s[k].toNat : Int) < 48 ∨ 57 < (s[k].toNat : Int) := by
          have : ¬ (48 ≤ s[k].toNat ∧ s[k].toNat ≤ 57) := fun h => by rw [(dig_iff _).2 h] at h2'; cases h2'
          omega
        clear h2 h2' hk' hlt hn
        rcases h4 with h4 | h4
        all_goals
          go_wp2
          go_quiet (fail)
          go_wp2
          rw [Exit.noGoto_ret]
          go_ret2
          exact ⟨tuple2' (by rw [← fin1.out]) (by rw [← fin2.out]), _, rfl⟩
      · have h7 : k ≤ s.size := by omega
        clear hk' hlt hn
        go_wp2
        go_quiet (fail)
        go_wp2
        rw [Exit.noGoto_ret]
        go_ret2
        exact ⟨tuple2' (by rw [← fin1.out]) (by rw [← fin2.out]), _, rfl⟩
end Go.Proofs.YtjmljepndicdmaaDoor
