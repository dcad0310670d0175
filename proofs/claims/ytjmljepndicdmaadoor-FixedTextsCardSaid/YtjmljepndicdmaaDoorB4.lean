import Derived.Test.YtjmljepndicdmaaDoorB3
import Derived.Test.YtjmljepndicdmaaDoorS4
set_option linter.unusedVariables false
set_option linter.unusedSimpArgs false
namespace Go.Proofs.YtjmljepndicdmaaDoor
open Go.RowKit

def bs (l : List UInt8) : ByteArray := ⟨l.toArray⟩
theorem bs_size (l : List UInt8) : (bs l).size = l.length := by simp [bs, ByteArray.size]
theorem bs_list (l : List UInt8) : (bs l).data.toList = l := by simp [bs]
theorem bs_toList (l : List UInt8) : (bs l).toList = l := by rw [ByteArray.toList_eq, bs_list]
theorem bs_empty (l : List UInt8) (h : l = []) : bs l = ⟨#[]⟩ := by subst h; rfl
theorem bs_head (c : UInt8) (t : List UInt8) (h : 0 < (bs (c :: t)).size) : (bs (c :: t))[0] = c := rfl
theorem bs_drop (c : UInt8) (t : List UInt8) : (bs (c :: t)).extract 1 (bs (c :: t)).size = bs t := by
  rw [extract_drop, bs_list]; rfl

theorem run_bs (l : List UInt8) (hs : l.length ≤ maxLen) : Run0 (bs l) (bs (l.takeWhile dig)) (bs (l.dropWhile dig)) := fun W => by
  have := run_any (bs l) W (by rw [bs_size]; exact hs)
  rw [bs_list] at this
  exact this

theorem drop_len (l : List UInt8) : (l.dropWhile dig).length ≤ l.length := (List.dropWhile_sublist _).length_le
theorem trim_len (l p : List UInt8) : (Lib.trimPrefix l p).length ≤ l.length := by
  unfold Lib.trimPrefix; split
  · simp
  · exact Nat.le_refl _

def NumPost (x : Int × Int) (w : World) (e : Ending) (w' : World) : Prop := e = .returned (.tuple #[.int .i64 x.1, .int .i64 x.2]) ∧ Below w.heap.size w w'

theorem num_bs (l : List UInt8) (h1 : 1 ≤ l.length) (h2 : l.length ≤ 13) (hd : l.all dig = true) : Num0 (bs l) (numOf l) := fun W =>
  puint_ok (bs l) W (by rw [bs_size]; omega) _ _ rfl (by rw [bs_list]; exact parseUintB_ok l (by intro e; subst e; simp at h1) hd (by omega))

theorem part_bs (l : List UInt8) (h1 : 1 ≤ l.length) (h2 : l.length ≤ 6) (hd : l.all dig = true) : Part0 (bs l) (partF l) := fun W _ =>
  part_any (bs l) W (by rw [bs_list]; exact hd) (by rw [bs_size]; omega) (by rw [bs_size]; omega) _ (by rw [bs_list])

theorem head_byte {a : List UInt8} (h : a.head? ≠ some 48) : ∀ h : 0 < (bs a).size, (((bs a)[0].toNat : Int) == 48) = false := by
  intro h0
  cases a with
  | nil => rw [bs_size] at h0; simp at h0
  | cons c t =>
    rw [bs_head]
    have hc : c ≠ 48 := by intro e; apply h; rw [e]; rfl
    have hn : c.toNat ≠ 48 := fun e => hc (UInt8.toNat_inj.1 e)
    simp only [beq_eq_false_iff_ne]
    omega

theorem parse_any (s : ByteArray) (w : World) (hs : s.size ≤ maxLen) (he : Env w) : Calls Tryd.prog 33 #[.string s] w (NumPost (parseF s.data.toList) w) := by
  have C0 : Cut0 s (bs (Lib.trimPrefix s.data.toList [45])) (Lib.hasPrefix s.data.toList [45]) := fun W => Tryd.strings_CutPrefix s ⟨#[45]⟩ W
  unfold parseF
  have hr : (Lib.trimPrefix s.data.toList [45]).length ≤ maxLen := Nat.le_trans (trim_len _ _) (by simpa using hs)
  generalize Lib.trimPrefix s.data.toList [45] = r at *
  generalize Lib.hasPrefix s.data.toList [45] = m at *
  have C1 := run_bs r hr
  have hal := takeWhile_all r
  have hwl := whole_lt r
  have hdl := drop_len r
  unfold restF
  generalize r.takeWhile dig = a at *
  generalize r.dropWhile dig = b at *
  by_cases hbad : badWhole a = true
  · rw [if_pos hbad]
    simp only [badWhole, Bool.or_eq_true, Bool.and_eq_true, decide_eq_true_eq] at hbad
    by_cases h1 : a.length < 1
    · exact parse_a1 s _ _ _ m w (Lib.hid C0) (Lib.hid C1) (by rw [bs_size]; exact h1)
    · by_cases h2 : 13 < a.length
      · exact parse_a2 s _ _ _ m w (Lib.hid C0) (Lib.hid C1) (by rw [bs_size]; exact h2)
      · rcases hbad with (h3 | h3) | h3
        · exact absurd h3 h1
        · exact absurd h3 h2
        · refine parse_a3 s _ _ _ m w (Lib.hid C0) (Lib.hid C1) (by rw [bs_size]; exact h3.1) (by rw [bs_size]; omega) ?_
          cases a with
          | nil => simp at h1
          | cons c t =>
            have : c = 48 := by simpa using h3.2
            rw [bs_head, this]; rfl
  · have hbad' : badWhole a = false := by simpa using hbad
    rw [if_neg hbad]
    obtain ⟨g1, g2, g3⟩ := badWhole_no hbad'
    have g1' : 1 ≤ (bs a).size := by rw [bs_size]; exact g1
    have g2' : (bs a).size ≤ 13 := by rw [bs_size]; exact g2
    have g3' : (bs a).size = 1 ∨ (1 < (bs a).size ∧ ∀ h : 0 < (bs a).size, (((bs a)[0].toNat : Int) == 48) = false) := by
      rcases g3 with g3 | g3
      · exact .inl (by rw [bs_size]; exact g3)
      · exact .inr ⟨by rw [bs_size]; exact g3.1, head_byte g3.2⟩
    have HN := num_bs a g1 g2 hal
    have hlt := hwl g2
    cases b with
    | nil =>
      have hP : Part0 ⟨#[]⟩ 0 := fun W hW => part_none W hW
      simp only [tailF, finF]
      by_cases hn : 9223372036854775807 < numOf a * 1000000
      · rw [if_pos hn]
        exact parse_b_big s _ _ _ m w (Lib.hid C0) (Lib.hid C1) g1' g2' g3' (by rw [bs_toList]; rfl) (numOf a) 0 (Lib.hid HN) (Lib.hid hP) he (by omega) (by omega) (by omega) (by omega) (by omega)
      · rw [if_neg hn]
        have := parse_b_ok s _ _ _ m w (Lib.hid C0) (Lib.hid C1) g1' g2' g3' (by rw [bs_toList]; rfl) (numOf a) 0 (Lib.hid HN) (Lib.hid hP) he (by omega) (by omega) (by omega) (by omega) (by omega)
        rw [show ((numOf a : Int) * 1000000 + 0) = ((numOf a * 1000000 : Nat) : Int) by omega, sgn_fin m _ (by omega)] at this
        exact this
    | cons c t =>
      have b0 : 0 < (bs (c :: t)).size := by rw [bs_size]; simp
      have b1 : (!(bs (c :: t)).toList.isEmpty) = true := by rw [bs_toList]; rfl
      simp only [tailF]
      by_cases hc : c = 46
      · have b2 : (((bs (c :: t))[0].toNat : Int) != 46) = false := by rw [bs_head, hc]; rfl
        have C2 := run_bs t (Nat.le_trans (Nat.le_succ _) (Nat.le_trans hdl hr))
        rw [← bs_drop c t] at C2
        have htl := takeWhile_all t
        rw [if_neg (by simpa using hc)]
        generalize t.takeWhile dig = d at *
        generalize t.dropWhile dig = e at *
        by_cases hb : badPart d e = true
        · rw [if_pos hb]
          simp only [badPart, Bool.or_eq_true, decide_eq_true_eq] at hb
          by_cases k1 : (!e.isEmpty) = true
          · exact parse_d1 s _ _ _ _ _ m w (Lib.hid C0) (Lib.hid C1) g1' g2' g3' b0 b1 b2 (Lib.hid C2) (by rw [bs_toList]; exact k1)
          · have k1' : (!e.isEmpty) = false := by simpa using k1
            by_cases k2 : d.length < 1
            · exact parse_d2 s _ _ _ _ _ m w (Lib.hid C0) (Lib.hid C1) g1' g2' g3' b0 b1 b2 (Lib.hid C2) (by rw [bs_toList]; exact k1') (by rw [bs_size]; exact k2)
            · have k3 : 6 < d.length := by
                rcases hb with (h | h) | h
                · exact absurd h k1
                · exact absurd h k2
                · exact h
              exact parse_d3 s _ _ _ _ _ m w (Lib.hid C0) (Lib.hid C1) g1' g2' g3' b0 b1 b2 (Lib.hid C2) (by rw [bs_toList]; exact k1') (by rw [bs_size]; exact k3)
        · rw [if_neg hb]
          obtain ⟨q1, q2, q3⟩ := badPart_no (by simpa using hb)
          have HP := part_bs d q2 q3 htl
          have hpl := partF_lt d htl q3
          have q1' : (!(bs e).toList.isEmpty) = false := by rw [bs_toList, q1]; rfl
          have q2' : 1 ≤ (bs d).size := by rw [bs_size]; exact q2
          have q3' : (bs d).size ≤ 6 := by rw [bs_size]; exact q3
          simp only [finF]
          by_cases hn : 9223372036854775807 < numOf a * 1000000 + partF d
          · rw [if_pos hn]
            exact parse_e_big s _ _ _ _ _ m w (Lib.hid C0) (Lib.hid C1) g1' g2' g3' b0 b1 b2 (Lib.hid C2) q1' q2' q3' (numOf a) (partF d) (Lib.hid HN) (Lib.hid HP) he (by omega) (by omega) (by omega) (by omega) (by omega)
          · rw [if_neg hn]
            have := parse_e_ok s _ _ _ _ _ m w (Lib.hid C0) (Lib.hid C1) g1' g2' g3' b0 b1 b2 (Lib.hid C2) q1' q2' q3' (numOf a) (partF d) (Lib.hid HN) (Lib.hid HP) he (by omega) (by omega) (by omega) (by omega) (by omega)
            rw [show ((numOf a : Int) * 1000000 + (partF d : Int)) = ((numOf a * 1000000 + partF d : Nat) : Int) by omega, sgn_fin m _ (by omega)] at this
            exact this
      · have b2 : (((bs (c :: t))[0].toNat : Int) != 46) = true := by
          rw [bs_head]
          have hn : c.toNat ≠ 46 := fun e => hc (UInt8.toNat_inj.1 e)
          simp only [bne_iff_ne]
          omega
        rw [if_pos hc]
        exact parse_c s _ _ _ m w (Lib.hid C0) (Lib.hid C1) g1' g2' g3' b0 b1 b2
end Go.Proofs.YtjmljepndicdmaaDoor
