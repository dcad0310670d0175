import Derived.Test.YtjmljepndicdmaaDoorT7
import Derived.Test.YtjmljepndicdmaaDoorT8
set_option linter.unusedVariables false
set_option linter.unusedSimpArgs false
namespace Go.Proofs.YtjmljepndicdmaaDoor
open Go.RowKit

theorem dig_sign {c : UInt8} (h : dig c = true) : ¬ (c.toNat = 43 ∨ c.toNat = 45) ∧ c.toNat ≠ 45 := by
  have := (dig_iff c).1 h
  omega
theorem parseIntB_ok (l : List UInt8) (hne : l ≠ []) (h : l.all dig = true) (hl : l.length ≤ 13) : Go.Lib.parseIntB 64 l = .ok (numOf l : Nat) := by
  have h1 := parseUintB_ok l hne h (by omega)
  have h2 := numOf_lt l h
  have h3 : numOf l < 9223372036854775808 := by
    have : 10 ^ l.length ≤ 10 ^ 13 := Nat.pow_le_pow_right (by decide) hl
    have e : (10 : Nat) ^ 13 = 10000000000000 := by decide
    omega
  cases l with
  | nil => exact absurd rfl hne
  | cons c r =>
    simp only [List.all_cons, Bool.and_eq_true] at h
    have hc := dig_sign h.1
    unfold Go.Lib.parseIntB
    simp only [if_neg hc.1, h1]
    have h4 : ¬ 2 ^ (64 - 1) ≤ numOf (c :: r) := by
      have e : (2 : Nat) ^ (64 - 1) = 9223372036854775808 := by decide
      rw [e]; omega
    rw [if_neg (fun hh => h4 hh.2), if_neg (fun hh => hc.2 hh.1), if_neg hc.2]

theorem pi_bs (l : List UInt8) (hne : l ≠ []) (h : l.all dig = true) (hl : l.length ≤ 13) : PI0 (bs l) (numOf l : Nat) := fun W => by
  refine (Tryd.strconv_ParseInt_10_at64_ok (bs l) (by rw [bs_size]; omega) _ (by rw [bs_list]; exact parseIntB_ok l hne h hl) W).mono ?_
  rintro e w' ⟨rfl, hw⟩
  refine ⟨rfl, ?_⟩
  rcases hw with rfl | ⟨t, rfl⟩
  · exact Below.refl _ _
  · exact Lib.bytesWorld_below W 5 t

theorem extract_mid (s : ByteArray) (o k : Nat) : s.extract o (o + k) = bs ((s.data.toList.drop o).take k) := by
  apply ByteArray.ext
  apply Array.toList_inj.1
  rw [ByteArray.data_extract]
  simp [bs]
theorem extract_from (s : ByteArray) (o : Nat) : s.extract o s.size = bs (s.data.toList.drop o) := extract_drop s o

theorem drop_cons {s : ByteArray} {o : Nat} {c : UInt8} {t : List UInt8} (h : s.data.toList.drop o = c :: t) : ∃ h : o < s.size, s[o] = c ∧ s.data.toList.drop (o + 1) = t := by
  have hl : o < s.size := by
    have := congrArg List.length h
    simp at this
    have e : s.data.size = s.size := rfl
    omega
  refine ⟨hl, ?_, ?_⟩
  · have h1 := drop_byte s o 0 (by rw [h]; simp) (by omega)
    simp only [h] at h1
    exact h1.symm
  · rw [← List.drop_drop, h]; rfl

theorem finX (o n p : Nat) (hp : p < 1000000) : FinX o n p (finF (decide (o = 1)) (n * 1000000 + p)) := by
  unfold FinX finF
  by_cases hb : 9223372036854775807 < n * 1000000 + p
  · left
    refine ⟨by omega, Lib.hid (by rw [if_pos hb])⟩
  · right
    refine ⟨by omega, Lib.hid ?_⟩
    rw [if_neg hb]
    by_cases h1 : o = 1
    · simp [h1]
    · simp [h1]

theorem rp_rest (s : ByteArray) (w : World) (o : Nat) (hs : s.size ≤ maxLen) (hh : Head s o) (ho : o ≤ s.size) :
    Calls Tryd.prog 34 #[.string s] w (RPost (restF (decide (o = 1)) (s.data.toList.drop o)) w) := by
  have HD : Dig0 s o (nDig (s.data.toList.drop o)) := fun W => digits_any s o W hs ho
  have hn := nDig_le (s.data.toList.drop o)
  have hl : (s.data.toList.drop o).length = s.size - o := by simp
  have htk := take_nDig (s.data.toList.drop o)
  have hdr := drop_nDig (s.data.toList.drop o)
  have hal := takeWhile_all (s.data.toList.drop o)
  have hna : ((s.data.toList.drop o).takeWhile dig).length = nDig (s.data.toList.drop o) := rfl
  have hhead : ∀ c t, (s.data.toList.drop o).takeWhile dig = c :: t → ∃ h : o < s.size, s[o] = c := by
    intro c t e
    rw [← htk] at e
    cases hr : s.data.toList.drop o with
    | nil => rw [hr] at e; simp at e
    | cons c' t' =>
      obtain ⟨h1, h2, h3⟩ := drop_cons hr
      refine ⟨h1, ?_⟩
      rw [hr] at e
      cases hk : nDig (c' :: t') with
      | zero => rw [hk] at e; simp at e
      | succ k => rw [hk, List.take_succ_cons] at e; rw [h2]; exact (List.cons.inj e).1
  unfold restF
  have hex : s.extract o (o + nDig (s.data.toList.drop o)) = bs ((s.data.toList.drop o).takeWhile dig) := by rw [extract_mid, htk]
  rw [List.drop_drop] at hdr
  generalize (s.data.toList.drop o).takeWhile dig = a at *
  generalize (s.data.toList.drop o).dropWhile dig = b at *
  generalize nDig (s.data.toList.drop o) = n at *
  clear htk
  by_cases hbad : badWhole a = true
  · rw [if_pos hbad]
    simp only [badWhole, Bool.or_eq_true, Bool.and_eq_true, decide_eq_true_eq] at hbad
    by_cases h1 : a.length < 1
    · exact rp_a1 s w _ o n hs hh (Lib.hid HD) (by omega) (Lib.hid rfl)
    · by_cases h2 : 13 < a.length
      · exact rp_a1 s w _ o n hs hh (Lib.hid HD) (by omega) (Lib.hid rfl)
      · rcases hbad with (h3 | h3) | h3
        · exact absurd h3 h1
        · exact absurd h3 h2
        · refine rp_a3 s w _ o n hs hh (Lib.hid HD) (by omega) (by omega) ?_ (Lib.hid rfl)
          cases a with
          | nil => simp at h1
          | cons c t =>
            obtain ⟨h4, h5⟩ := hhead c t rfl
            have hc : c = 48 := by simpa using h3.2
            exact ⟨h4, by rw [h5, hc]; rfl⟩
  · have hbad' : badWhole a = false := by simpa using hbad
    rw [if_neg hbad]
    obtain ⟨g1, g2, g3⟩ := badWhole_no hbad'
    have hne : a ≠ [] := by intro e; subst e; simp at g1
    have hW : WholeOk s o n := by
      rcases g3 with g3 | g3
      · exact .inl (by omega)
      · refine .inr ⟨by omega, ?_⟩
        cases a with
        | nil => simp at g1
        | cons c t =>
          obtain ⟨h4, h5⟩ := hhead c t rfl
          refine ⟨h4, ?_⟩
          rw [h5]
          simp only [beq_eq_false_iff_ne]
          intro e
          apply g3.2
          have : c = 48 := UInt8.toNat_inj.1 (by show c.toNat = 48; omega)
          rw [this]; rfl
    have HN : PI0 (s.extract o (o + n)) (numOf a : Nat) := by rw [hex]; exact pi_bs a hne hal g2
    have HN' : ∀ t, t = s.extract o (o + n) → PI0 t (numOf a : Nat) := fun t e => by rw [e]; exact HN
    have hlt : numOf a < 10000000000000 := by
      have h2 := numOf_lt a hal
      have : 10 ^ a.length ≤ 10 ^ 13 := Nat.pow_le_pow_right (by decide) g2
      have e : (10 : Nat) ^ 13 = 10000000000000 := by decide
      omega
    cases b with
    | nil =>
      have hsz : s.size ≤ o + n := by
        have := congrArg List.length hdr
        simp at this
        have e : s.data.size = s.size := rfl
        omega
      have hf := finX o (numOf a) 0 (by decide)
      rw [Nat.add_zero] at hf
      show Calls Tryd.prog 34 _ w (RPost (finF (decide (o = 1)) (numOf a * 1000000)) w)
      generalize finF (decide (o = 1)) (numOf a * 1000000) = X at *
      exact rp_b s w X o n _ hs hh (Lib.hid HD) (by omega) (by omega) hsz (by omega) hW (Lib.hid HN) (by omega) (by omega) hf
    | cons c t =>
      obtain ⟨h1, h2, h3⟩ := drop_cons hdr
      have ht : t.length = s.size - (o + n + 1) := by rw [← h3]; simp
      have HK : ∀ p : Int, p = o + n + 1 → Dig0 s p (nDig t) := fun p hp W => by
        subst hp
        rw [← h3]
        exact digits_any s (o + n + 1) W hs h1
      have hk := nDig_le t
      show Calls Tryd.prog 34 _ w (RPost (if c ≠ 46 then (0, 3) else if badPart (t.takeWhile dig) (t.dropWhile dig) then (0, 3) else finF (decide (o = 1)) (numOf a * 1000000 + partF (t.takeWhile dig))) w)
      by_cases hc : c = 46
      · rw [if_neg (fun h => h hc)]
        have h46 : ∃ h : o + n < s.size, (s[o + n].toNat : Int) = 46 := ⟨h1, by rw [h2, hc]; rfl⟩
        by_cases hbp : badPart (t.takeWhile dig) (t.dropWhile dig) = true
        · rw [if_pos hbp]
          refine rp_c1 s w _ o n _ (nDig t : Nat) hs hh (Lib.hid HD) (by omega) (by omega) h1 hW (Lib.hid HN') (Lib.hid HK) (by omega) (by omega) (.inr ⟨h46, ?_⟩) (Lib.hid rfl)
          by_cases k1 : nDig t < 1
          · exact .inl (by omega)
          · by_cases k6 : 6 < nDig t
            · exact .inr (.inl (by omega))
            · refine .inr (.inr ⟨by omega, by omega, ?_⟩)
              simp only [badPart, Bool.or_eq_true, decide_eq_true_eq] at hbp
              have e : (t.takeWhile dig).length = nDig t := rfl
              rw [e] at hbp
              have h5 : (t.dropWhile dig) ≠ [] := by
                rcases hbp with (h | h) | h
                · intro e2; rw [e2] at h; simp at h
                · omega
                · omega
              rw [← drop_nDig t] at h5
              have h6 : nDig t < t.length := by
                by_cases h7 : nDig t < t.length
                · exact h7
                · exact absurd (List.drop_eq_nil_of_le (by omega)) h5
              omega
        · have hbp' : badPart (t.takeWhile dig) (t.dropWhile dig) = false := by simpa using hbp
          rw [if_neg hbp]
          obtain ⟨e1, e2, e3⟩ := badPart_no hbp'
          have e : (t.takeWhile dig).length = nDig t := rfl
          have hkt : t.length ≤ nDig t := by
            rw [← drop_nDig t] at e1
            exact List.drop_eq_nil_iff.1 e1
          have htt : t.takeWhile dig = t := by rw [← take_nDig t]; exact List.take_of_length_le hkt
          have htd := takeWhile_all t
          rw [htt] at e2 e3 htd ⊢
          have htne : t ≠ [] := by intro e; subst e; simp at e2
          have HP : ∀ x, x = s.extract (o + n + 1) s.size → PI0 x (numOf t : Nat) := fun x e => by
            rw [e, extract_from, h3]
            exact pi_bs t htne htd (by omega)
          have hpl := partF_lt t htd e3
          refine rp_c s w _ o n (nDig t) _ (partF t : Nat) (numOf t) hs hh (Lib.hid HD) (by omega) (by omega) h1 hW (Lib.hid HN') (Lib.hid HK) (by omega) (by omega) h46 (by omega) (by omega) (Lib.hid HP) (Lib.hid ?_) (by omega) (by omega) (by omega) (by omega) (finX o (numOf a) (partF t) hpl)
          rw [partF, if_neg htne, show nDig t = t.length by omega]
      · rw [if_pos hc]
        have hne46 : (s[o + n].toNat : Int) < 46 ∨ 46 < (s[o + n].toNat : Int) := by
          rw [h2]
          have : c.toNat ≠ 46 := fun e => hc (UInt8.toNat_inj.1 (by show c.toNat = 46; exact e))
          omega
        exact rp_c1 s w _ o n _ (nDig t : Nat) hs hh (Lib.hid HD) (by omega) (by omega) h1 hW (Lib.hid HN') (Lib.hid HK) (by omega) (by omega) (.inl ⟨h1, hne46⟩) (Lib.hid rfl)

theorem rparse_any (s : ByteArray) (w : World) (hs : s.size ≤ maxLen) : Calls Tryd.prog 34 #[.string s] w (RPost (parseF s.data.toList) w) := by
  have hd0 : s.data.toList.drop 0 = s.data.toList := rfl
  by_cases h0 : s.size = 0
  · have he : s.data.toList = [] := by
      apply List.length_eq_zero_iff.1
      have : s.data.toList.length = s.size := by simp
      omega
    refine rp_a0 s w _ h0 (Lib.hid fun W => ?_) (Lib.hid (by rw [he]; rfl))
    have := digits_any s 0 W hs (Nat.zero_le _)
    rw [he] at this
    exact this
  · cases hl : s.data.toList with
    | nil =>
      have : s.data.toList.length = s.size := by simp
      rw [hl] at this
      exact absurd this.symm h0
    | cons c t =>
      obtain ⟨h1, h2, h3⟩ := drop_cons (s := s) (o := 0) (by rw [hd0]; exact hl)
      by_cases hc : c = 45
      · subst hc
        have := rp_rest s w 1 hs (.inl ⟨rfl, h1, by rw [h2]; rfl⟩) (by omega)
        rw [h3] at this
        have e1 : Lib.hasPrefix (45 :: t) [45] = true := by simp [Lib.hasPrefix, List.isPrefixOf]
        unfold parseF
        rw [Lib.trimPrefix, e1, if_pos rfl]
        exact this
      · have hcn : (((s[0].toNat : Int) == 45) = false) := by
          rw [h2]
          simp only [beq_eq_false_iff_ne]
          intro e
          exact hc (UInt8.toNat_inj.1 (by show c.toNat = 45; omega))
        have := rp_rest s w 0 hs (.inr ⟨rfl, h1, hcn⟩) (Nat.zero_le _)
        rw [hd0, hl] at this
        have e1 : Lib.hasPrefix (c :: t) [45] = false := by simp [Lib.hasPrefix, List.isPrefixOf, Ne.symm hc]
        unfold parseF
        rw [Lib.trimPrefix, e1, if_neg (by simp)]
        exact this
end Go.Proofs.YtjmljepndicdmaaDoor
