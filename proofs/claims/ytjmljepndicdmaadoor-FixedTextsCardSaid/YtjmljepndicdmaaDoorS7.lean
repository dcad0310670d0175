import Derived.Test.YtjmljepndicdmaaDoorS4
import Derived.Lib.ItoaNum
import Derived.Lib.TrimByte
import Derived.Lib.Repeat
set_option linter.unusedVariables false
set_option linter.unusedSimpArgs false
namespace Go.Proofs.YtjmljepndicdmaaDoor
open Go.Lib

/-- Six places of a number below a million. -/
def six (r : Nat) : List UInt8 := (List.range 6).map fun t => dg r (5 - t)
/-- What stands behind the point. -/
def fracF (r : Nat) : List UInt8 := if r = 0 then [] else 46 :: trimRightB (six r) 48
/-- A number as text. -/
def textF (v : Int) : List UInt8 := (if v < 0 then [45] else []) ++ (decDigits ((absF v).toNat / 1000000) ++ fracF ((absF v).toNat % 1000000))

theorem dg_nat (u k : Nat) : (dg u k).toNat = 48 + u / 10 ^ k % 10 := by
  unfold dg
  rw [UInt8.toNat_ofNat']
  omega
theorem dg_zero (u k : Nat) (h : u < 10 ^ k) : dg u k = 48 := by
  unfold dg
  rw [Nat.div_eq_of_lt h]; rfl
theorem dg_dig (u k : Nat) : dig (dg u k) = true := (dig_iff _).2 (by rw [dg_nat]; omega)

theorem nDigits_le (r k : Nat) (hk : 1 ≤ k) (h : r < 10 ^ k) : nDigits r ≤ k := by
  by_cases h0 : r < 10
  · rw [nDigits_small h0]; exact hk
  · have h1 : 10 ^ (nDigits r - 1) ≤ r := by
      have hgt := lt_pow_nDigits r
      clear h hk k
      induction r using Nat.strongRecOn with
      | _ u ih =>
        rw [nDigits_big h0]
        by_cases h2 : u / 10 < 10
        · rw [nDigits_small h2]; omega
        · have := ih (u / 10) (by omega) h2 (lt_pow_nDigits _)
          have hp := nDigits_pos (u / 10)
          obtain ⟨q, hq⟩ : ∃ q, nDigits (u / 10) = q + 1 := ⟨nDigits (u / 10) - 1, by omega⟩
          rw [hq] at this ⊢
          simp only [Nat.add_sub_cancel] at this ⊢
          rw [Nat.pow_succ]
          omega
    have h2 := Nat.lt_of_le_of_lt h1 h
    have h3 := (Nat.pow_lt_pow_iff_right (a := 10) (by decide)).1 h2
    omega

theorem pad_six (r : Nat) (h : r < 1000000) : repeatL [48] (6 - nDigits r) ++ decDigits r = six r := by
  have hn : nDigits r ≤ 6 := nDigits_le r 6 (by decide) h
  have h1 := nDigits_pos r
  have hr : ∀ c, repeatL [48] c = List.replicate c 48 := by
    intro c
    induction c with
    | zero => rfl
    | succ c ih => rw [show c + 1 = 1 + c by omega, repeatL_add, repeatL_one, ih, ← List.replicate_append_replicate]; rfl
  rw [hr, decDigits_eq]
  apply List.ext_getElem
  · simp [six]; omega
  · intro i hi hi'
    simp only [List.length_append, List.length_replicate, List.length_map, List.length_range] at hi
    simp only [six, List.getElem_map, List.getElem_range]
    by_cases hl : i < 6 - nDigits r
    · rw [List.getElem_append_left (by simpa using hl), List.getElem_replicate]
      refine (dg_zero r _ ?_).symm
      exact Nat.lt_of_lt_of_le (lt_pow_nDigits r) (Nat.pow_le_pow_right (by decide) (by omega))
    · rw [List.getElem_append_right (by simpa using hl)]
      simp only [List.length_replicate, List.getElem_map, List.getElem_range]
      congr 1
      omega

theorem dec_seven (r : Nat) (h : r < 1000000) : decDigits (r + 1000000) = 49 :: six r := by
  have hn : nDigits (r + 1000000) = 7 := nDigits_unique 6 _ (by omega) (by omega)
  rw [decDigits_eq, hn]
  have h6 : dg (r + 1000000) 6 = 49 := by
    apply UInt8.toNat_inj.1
    rw [dg_nat]
    show 48 + (r + 1000000) / 1000000 % 10 = 49
    omega
  have hk : ∀ k, k < 6 → dg (r + 1000000) k = dg r k := by
    intro k hk
    apply UInt8.toNat_inj.1
    rw [dg_nat, dg_nat]
    have : k = 0 ∨ k = 1 ∨ k = 2 ∨ k = 3 ∨ k = 4 ∨ k = 5 := by omega
    rcases this with rfl | rfl | rfl | rfl | rfl | rfl <;> simp only [Nat.reducePow] <;> omega
  have : (List.range 7) = 0 :: (List.range 6).map (· + 1) := by decide
  rw [this, List.map_cons, List.map_map, six]
  congr 1
  refine List.map_congr_left fun t ht => ?_
  have := List.mem_range.1 ht
  show dg _ (7 - 1 - (t + 1)) = _
  rw [hk _ (by omega)]
  congr 1
  omega

/-! ### there and back -/
theorem e48 : (48 : UInt8).toNat - 48 = 0 := rfl
theorem numFrom_nil (acc : Nat) : numFrom acc [] = acc := rfl
theorem numFrom_cons (acc : Nat) (c : UInt8) (r : List UInt8) : numFrom acc (c :: r) = numFrom (acc * 10 + (c.toNat - 48)) r := by
  delta numFrom
  rfl
theorem numFrom_append (l m : List UInt8) : ∀ acc, numFrom acc (l ++ m) = numFrom (numFrom acc l) m := by
  induction l with
  | nil => intro acc; rw [List.nil_append, numFrom_nil]
  | cons c r ih => intro acc; rw [List.cons_append, numFrom_cons, ih, numFrom_cons]
theorem numFrom_zeros (k : Nat) : ∀ acc : Nat, numFrom acc (List.replicate k (48 : UInt8)) = acc * 10 ^ k := by
  induction k with
  | zero => intro acc; rw [List.replicate_zero, Nat.pow_zero, Nat.mul_one, numFrom_nil]
  | succ k ih => intro acc; rw [List.replicate_succ, numFrom_cons, ih, e48, Nat.pow_succ, Nat.add_zero, Nat.mul_assoc, Nat.mul_comm 10]

theorem num_dec (u : Nat) : numOf (decDigits u) = u := by
  induction u using Nat.strongRecOn with
  | _ u ih =>
    by_cases h : u < 10
    · rw [decDigits_one h, numOf, numFrom_cons, numFrom_nil, UInt8.toNat_ofNat']
      omega
    · rw [decDigits, dif_neg h]
      unfold numOf
      rw [numFrom_append]
      have := ih (u / 10) (by omega)
      unfold numOf at this
      rw [this, numFrom_cons, numFrom_nil, UInt8.toNat_ofNat']
      omega
theorem num_six (r : Nat) (h : r < 1000000) : numOf (six r) = r := by
  have := num_dec (r + 1000000)
  rw [dec_seven r h] at this
  generalize he3 : six r = l6 at this
  have e3 : l6.length = 6 := by rw [← he3]; simp [six]
  clear he3
  unfold numOf at this ⊢
  have e : numFrom 0 (49 :: l6) = numFrom 1 l6 := by rw [numFrom_cons]; rfl
  rw [e] at this
  have e2 : ∀ (l : List UInt8) a, numFrom a l = a * 10 ^ l.length + numFrom 0 l := by
    intro l
    induction l with
    | nil => intro a; rw [numFrom_nil, numFrom_nil, List.length_nil, Nat.pow_zero, Nat.mul_one, Nat.add_zero]
    | cons c t ih =>
      intro a
      rw [numFrom_cons, numFrom_cons, ih, ih (0 * 10 + (c.toNat - 48)), List.length_cons, Nat.pow_succ, Nat.add_mul, Nat.mul_assoc, Nat.mul_comm 10, Nat.zero_mul, Nat.zero_add, Nat.add_assoc]
  rw [e2, e3] at this
  omega

theorem trim_split (l : List UInt8) (c : UInt8) : l = trimRightB l c ++ List.replicate (l.length - (trimRightB l c).length) c := by
  have h : ∀ m : List UInt8, m = List.replicate (m.length - (m.dropWhile (· == c)).length) c ++ m.dropWhile (· == c) := by
    intro m
    induction m with
    | nil => rfl
    | cons a m ih =>
      by_cases ha : a = c
      · subst ha
        rw [List.dropWhile_cons_of_pos (by simp)]
        have hl := (List.dropWhile_sublist (p := (· == a)) (l := m)).length_le
        rw [List.length_cons, show m.length + 1 - (m.dropWhile (· == a)).length = (m.length - (m.dropWhile (· == a)).length) + 1 by omega, List.replicate_succ, List.cons_append, ← ih]
      · rw [List.dropWhile_cons_of_neg (by simpa using ha)]
        simp
  have := h l.reverse
  have h2 := congrArg List.reverse this
  rw [List.reverse_reverse, List.reverse_append, List.reverse_replicate] at h2
  rw [List.length_reverse] at h2
  unfold trimRightB
  rw [List.length_reverse]
  exact h2

theorem trim_le (l : List UInt8) (c : UInt8) : (trimRightB l c).length ≤ l.length := by
  have := congrArg List.length (trim_split l c)
  rw [List.length_append] at this
  omega

theorem six_trim (r : Nat) (h : r < 1000000) (h0 : r ≠ 0) :
    1 ≤ (trimRightB (six r) 48).length ∧ (trimRightB (six r) 48).length ≤ 6 ∧ (trimRightB (six r) 48).all dig = true ∧ partF (trimRightB (six r) 48) = r := by
  have hs := trim_split (six r) 48
  have hl := trim_le (six r) 48
  have e3 : (six r).length = 6 := by simp [six]
  rw [e3] at hs hl
  have hn := num_six r h
  have hall : (six r).all dig = true := by
    rw [six, List.all_map, List.all_eq_true]
    intro t _; exact dg_dig _ _
  rw [hs, List.all_append, Bool.and_eq_true] at hall
  rw [hs] at hn
  unfold numOf at hn
  rw [numFrom_append, numFrom_zeros] at hn
  refine ⟨?_, hl, hall.1, ?_⟩
  · by_cases hz : trimRightB (six r) 48 = []
    · rw [hz, numFrom_nil, Nat.zero_mul] at hn
      omega
    · exact List.length_pos_iff.2 hz
  · unfold partF
    split
    · rename_i hz
      rw [hz, numFrom_nil, Nat.zero_mul] at hn
      omega
    · exact hn

theorem dec_dig (u : Nat) : (decDigits u).all dig = true := by
  rw [decDigits_eq, List.all_map, List.all_eq_true]
  intro t _; exact dg_dig _ _

theorem head_some (l : List UInt8) (h : 0 < l.length) {o : Option UInt8} : l.head?.or o = l.head? := by
  cases l with
  | nil => simp at h
  | cons c t => rfl
theorem dec_head (u : Nat) (h : 1 < (decDigits u).length) : (decDigits u).head? ≠ some 48 := by
  induction u using Nat.strongRecOn with
  | _ u ih =>
    by_cases h1 : u < 10
    · rw [decDigits_one h1] at h; simp at h
    · rw [decDigits, dif_neg h1] at h ⊢
      have hp : 0 < (decDigits (u / 10)).length := by rw [decDigits_length]; exact nDigits_pos _
      rw [List.head?_append, head_some _ hp]
      by_cases h2 : 1 < (decDigits (u / 10)).length
      · exact ih _ (by omega) h2
      · have h3 : u / 10 < 10 := by
          rw [decDigits_length] at h2
          by_cases h4 : u / 10 < 10
          · exact h4
          · rw [nDigits_big h4] at h2
            have := nDigits_pos (u / 10 / 10)
            omega
        rw [decDigits_one h3]
        intro e
        have e' : UInt8.ofNat (48 + u / 10) = 48 := by simpa using e
        have := congrArg UInt8.toNat e'
        rw [UInt8.toNat_ofNat'] at this
        have e48 : (48 : UInt8).toNat = 48 := rfl
        rw [e48] at this
        omega

theorem takeWhile_app (a b : List UInt8) (ha : a.all dig = true) (hb : ∀ c, b.head? = some c → dig c = false) : (a ++ b).takeWhile dig = a ∧ (a ++ b).dropWhile dig = b := by
  induction a with
  | nil =>
    cases b with
    | nil => exact ⟨rfl, rfl⟩
    | cons c t =>
      have := hb c rfl
      exact ⟨by rw [List.nil_append, List.takeWhile_cons_of_neg (by simp [this])], by rw [List.nil_append, List.dropWhile_cons_of_neg (by simp [this])]⟩
  | cons c t ih =>
    simp only [List.all_cons, Bool.and_eq_true] at ha
    obtain ⟨h1, h2⟩ := ih ha.2
    exact ⟨by rw [List.cons_append, List.takeWhile_cons_of_pos ha.1, h1], by rw [List.cons_append, List.dropWhile_cons_of_pos ha.1, h2]⟩

theorem rest_text (m : Bool) (n : Nat) (hn : n ≤ 9223372036854775807) : restF m (decDigits (n / 1000000) ++ fracF (n % 1000000)) = ((if m then -(n : Int) else n), 0) := by
  have hlen : (decDigits (n / 1000000)).length ≤ 13 := by
    rw [decDigits_length]
    exact nDigits_le _ 13 (by decide) (by rw [show (10 : Nat) ^ 13 = 10000000000000 from rfl]; omega)
  have hpos : 1 ≤ (decDigits (n / 1000000)).length := by rw [decDigits_length]; exact nDigits_pos _
  have hhead := dec_head (n / 1000000)
  have hnum := num_dec (n / 1000000)
  have hdig := dec_dig (n / 1000000)
  have hmod : n % 1000000 < 1000000 := Nat.mod_lt _ (by decide)
  have hsum : n / 1000000 * 1000000 + n % 1000000 = n := by omega
  generalize decDigits (n / 1000000) = a at *
  have hbad : badWhole a = false := by
    unfold badWhole
    rw [decide_eq_false (by omega), decide_eq_false (by omega)]
    by_cases h : 1 < a.length
    · have := hhead h
      simp [h, this]
    · simp [h]
  unfold restF
  by_cases h0 : n % 1000000 = 0
  · have hf : fracF (n % 1000000) = [] := by rw [fracF, if_pos h0]
    rw [hf]
    obtain ⟨e1, e2⟩ := takeWhile_app a [] hdig (by simp)
    rw [e1, e2, hbad]
    show finF m (numOf a * 1000000) = _
    rw [hnum, Nat.div_mul_cancel (Nat.dvd_of_mod_eq_zero h0), finF, if_neg (Nat.not_lt.2 hn)]
  · have hf : fracF (n % 1000000) = 46 :: trimRightB (six (n % 1000000)) 48 := by rw [fracF, if_neg h0]
    rw [hf]
    obtain ⟨e1, e2⟩ := takeWhile_app a (46 :: trimRightB (six (n % 1000000)) 48) hdig (by intro c hc; have : (46 : UInt8) = c := by simpa using hc
                                                                                          subst this; decide)
    rw [e1, e2, hbad]
    obtain ⟨t1, t2, t3, t4⟩ := six_trim _ hmod h0
    have tw := takeWhile_app (trimRightB (six (n % 1000000)) 48) [] t3 (by simp)
    rw [List.append_nil] at tw
    show (if (46 : UInt8) ≠ 46 then ((0 : Int), (3 : Int)) else if badPart _ _ then (0, 3) else finF m (numOf a * 1000000 + partF _)) = _
    rw [tw.1, tw.2, t4, hnum, hsum, if_neg (fun h => h rfl)]
    have hb : badPart (trimRightB (six (n % 1000000)) 48) [] = false := by
      unfold badPart
      rw [decide_eq_false (by omega), decide_eq_false (by omega)]
      rfl
    rw [hb, if_neg (by simp), finF, if_neg (Nat.not_lt.2 hn)]

theorem parse_text (v : Int) (h1 : v ≤ 9223372036854775807) : parseF (textF v) = (nrm v, 0) := by
  have hb := absF_bd v h1
  have hr : ∀ m, restF m (decDigits ((absF v).toNat / 1000000) ++ fracF ((absF v).toNat % 1000000)) = ((if m then -((absF v).toNat : Int) else (absF v).toNat), 0) := fun m => rest_text m _ (by omega)
  unfold parseF textF
  by_cases hv : v < 0
  · rw [if_pos hv]
    rw [List.singleton_append]
    have e1 : ∀ l : List UInt8, hasPrefix (45 :: l) [45] = true := fun l => by simp [hasPrefix, List.isPrefixOf]
    have e2 : ∀ l : List UInt8, trimPrefix (45 :: l) [45] = l := fun l => by rw [trimPrefix, if_pos (e1 l)]; rfl
    rw [e1, e2, hr]
    have : absF v = - nrm v := by rw [absF_neg v hv]; rfl
    rw [if_pos rfl]
    congr 1
    omega
  · rw [if_neg hv, List.nil_append]
    have e1 : hasPrefix (decDigits ((absF v).toNat / 1000000) ++ fracF ((absF v).toNat % 1000000)) [45] = false := by
      have hd := dec_dig ((absF v).toNat / 1000000)
      have hp : 0 < (decDigits ((absF v).toNat / 1000000)).length := by rw [decDigits_length]; exact nDigits_pos _
      generalize decDigits ((absF v).toNat / 1000000) = a at *
      cases a with
      | nil => simp at hp
      | cons c t =>
        simp only [List.all_cons, Bool.and_eq_true] at hd
        have := (dig_iff c).1 hd.1
        have hc : c ≠ 45 := by
          intro e; subst e
          have e45 : (45 : UInt8).toNat = 45 := rfl
          omega
        simp [hasPrefix, List.isPrefixOf, Ne.symm hc]
    rw [trimPrefix, e1, if_neg (by simp), hr, absF_nn v (by omega), nrm_id v (by omega)]
    simp
    omega
end Go.Proofs.YtjmljepndicdmaaDoor
