import Derived.Test.YtnfanpjfhdlddaaGreatDoorQFits13
import Derived.Test.YtnfanpjfhdlddaaGreatDoorQFits16
section
set_option linter.unusedVariables false
set_option linter.unusedSimpArgs false
namespace Go.Proofs.YtnfanpjfhdlddaaGreatDoor.Pr
open Go.RowKit Go.Proofs.YtnfanpjfhdlddaaGreatDoorW.PrintWords Go.Proofs.YtnfanpjfhdlddaaGreatDoorW.PrintLast Go.Proofs.YtnfanpjfhdlddaaGreatDoorW.PrintMore
def hasL : List UInt8 → List UInt8 → Bool
  | [], p => p.isEmpty
  | b :: l, p => p.isPrefixOf (b :: l) || hasL l p
theorem contains_hasL (s p : List UInt8) : Lib.contains s p = hasL s p := by
 unfold Lib.contains
 induction s with
 | nil => unfold Lib.index hasL; cases p <;> rfl
 | cons b l ih =>
  unfold Lib.index hasL
  rw [← ih]
  by_cases h : p.isPrefixOf (b :: l) = true
  ·
   rw [if_pos h, h]; rfl
  ·
   rw [if_neg h, Bool.eq_false_iff.2 h, Bool.false_or]
   have := Lib.index_ge l p
   by_cases h1 : (Lib.index l p == -1) = true
   ·
    rw [if_pos h1, beq_iff_eq.1 h1]
   ·
    rw [if_neg h1]
    have h1' : Lib.index l p ≠ -1 := fun e => h1 (beq_iff_eq.2 e)
    rw [decide_eq_true (by omega), decide_eq_true (by omega)]
theorem hasL_short : ∀ (s p : List UInt8), s.length < p.length → hasL s p = false
 | [], p, h => by cases p with
  | nil => simp at h
  | cons a t => rfl
 | b :: l, p, h => by
  rw [hasL, hasL_short l p (by simp at h; omega), Bool.or_false]
  refine Bool.eq_false_iff.2 fun e => ?_
  have := List.IsPrefix.length_le (List.isPrefixOf_iff_prefix.1 e)
  simp at h this; omega
theorem has_l0 (s p : ByteArray) (hs : s.size < 4611686018427387904) (hp : p.size ≤ 4611686018427387904) : ∀ (n i : Nat), i + n = s.size → ∀ k, n < k → belfryref04_Has.l0 k s p (i : Int) = some (hasL (s.data.toList.drop i) p.data.toList)
 | _, _, _, 0, hk => absurd hk (by omega)
 | n, i, hn, k + 1, hk => by
  have hsl : s.data.toList.length = s.size := by simp
  have hpl : p.data.toList.length = p.size := by simp
  rw [belfryref04_Has.l0, wrap_small (n := (i : Int) + (p.size : Int)) (by omega) (by omega)]
  by_cases hle : i + p.size ≤ s.size
  ·
   rw [if_pos (by omega), if_pos (by omega), if_pos (by omega), Lib.extract_toList]
   have e1 : ((i : Int) + (p.size : Int)).toNat - ((i : Int)).toNat = p.data.toList.length := by omega
   have e2 : ((i : Int)).toNat = i := by omega
   rw [e1, e2]
   by_cases he : (s.data.toList.drop i).take p.data.toList.length = p.toList
   ·
    rw [if_pos he]
    rw [Lib.toList_data] at he
    have hpre : p.data.toList.isPrefixOf (s.data.toList.drop i) = true := List.isPrefixOf_iff_prefix.2 (by rw [← he]; exact List.take_prefix _ _)
    cases hd : s.data.toList.drop i with
    | nil => rw [hd] at hpre; rw [hasL]; cases hq : p.data.toList with
     | nil => rfl
     | cons a t => rw [hq] at hpre; simp at hpre
    | cons b l => rw [hd] at hpre; rw [hasL, hpre, Bool.true_or]
   ·
    rw [if_neg he]
    rw [Lib.toList_data] at he
    have hpre : p.data.toList.isPrefixOf (s.data.toList.drop i) = false := Bool.eq_false_iff.2 fun e => he (List.prefix_iff_eq_take.1 (List.isPrefixOf_iff_prefix.1 e)).symm
    have hi : i < s.size := by
     rcases Nat.lt_or_ge i s.size with h | h
     ·
      exact h
     ·
      exfalso
      have h0 : p.size = 0 := by omega
      have : p.data.toList = [] := List.eq_nil_of_length_eq_zero (hpl.trans h0)
      rw [this] at he; simp at he
    obtain ⟨n, rfl⟩ : ∃ m, n = m + 1 := ⟨n - 1, by omega⟩
    rw [wrap_small (n := (i : Int) + 1) (by omega) (by omega), show (i : Int) + 1 = ((i + 1 : Nat) : Int) by omega, has_l0 s p hs hp n (i + 1) (by omega) k (by omega)]
    have hd : s.data.toList.drop i = s.data.toList[i]'(by omega) :: s.data.toList.drop (i + 1) := List.drop_eq_getElem_cons (by omega)
    rw [hd] at hpre ⊢
    rw [hasL, hpre, Bool.false_or]
  ·
   rw [if_neg (by omega), hasL_short _ _ (by simp; omega)]
theorem has_ev (s p : ByteArray) (hs : s.size < 4611686018427387904) (hp : p.size ≤ 4611686018427387904) : Ev (fun k => belfryref04_Has.f k s p) (hasL s.data.toList p.data.toList) := by
 refine ⟨s.size + 1, fun k hk => ?_⟩
 have := has_l0 s p hs hp s.size 0 (by omega) k (by omega)
 exact this
theorem ref_get_l0 (key : ByteArray) (l : List S45) (hl : l.length < 4398046511104) : ∀ (n i : Nat), i + n = l.length → ∀ k, n < k → belfryref04_Get.l0 k l key (i : Int) = some (getL key (l.drop i))
 | _, _, _, 0, hk => absurd hk (by omega)
 | 0, i, hn, k + 1, hk => by
  rw [belfryref04_Get.l0, if_neg (by omega), List.drop_of_length_le (show l.length ≤ i by omega)]; rfl
 | n + 1, i, hn, k + 1, hk => by
  have hi : i < l.length := by omega
  rw [belfryref04_Get.l0, if_pos (by omega), if_pos (by omega), rd_at l i hi, drop_cons l i hi, getL, wrap_small (n := (i : Int) + 1) (by omega) (by omega), show (i : Int) + 1 = ((i + 1 : Nat) : Int) by omega, ref_get_l0 key l hl n (i + 1) (by omega) k (by omega)]
  simp only [Lib.toList_data]
  by_cases h : keyL l[i] = key.data.toList
  ·
   rw [if_pos h, if_pos h]
  ·
   rw [if_neg h, if_neg h]
theorem ref_get_ev (key : ByteArray) (l : List S45) (hl : l.length < 4398046511104) : Ev (fun k => belfryref04_Get.f k l key) (getL key l) := by
 refine ⟨l.length + 1, fun k hk => ?_⟩
 have := ref_get_l0 key l hl l.length 0 (by omega) k (by omega)
 exact this
def holdB (x : S54) (v : ByteArray) : Bool :=
  if x.f0 = 1 then v.data.toList == x.f2.data.toList else if x.f0 = 2 then v.data.toList != x.f2.data.toList else if x.f0 = 3 then hasL v.data.toList x.f2.data.toList else if x.f0 = 4 then !hasL v.data.toList x.f2.data.toList else false
def fitsL (l : List S45) (m : List S54) : Bool := m.all fun x => holdB x (getL x.f1 l).1
def smallA (l : List S45) : Prop := ∀ x ∈ l, x.f1.size < 4294967281
def smallM (m : List S54) : Prop := m.length ≤ 1048576 ∧ ∀ x ∈ m, x.f2.size ≤ 4611686018427387904
theorem getL_small {l : List S45} (h : smallA l) (key : ByteArray) : (getL key l).1.size < 4294967281 := by
 induction l with
 | nil => show (0 : Nat) < _; omega
 | cons x l ih =>
  rw [getL]
  split
  ·
   exact h x (List.mem_cons_self ..)
  ·
   exact ih fun y hy => h y (List.mem_cons_of_mem _ hy)
theorem rd_at54 (l : List S54) (i : Nat) (h : i < l.length) : rd_T54 l (i : Int) = l[i] := by simp [rd_T54, h]
theorem drop_cons54 (l : List S54) (i : Nat) (h : i < l.length) : l.drop i = l[i] :: l.drop (i + 1) := List.drop_eq_getElem_cons h
theorem fits_l0 (l : List S45) (hl : l.length < 4398046511104) (hs : smallA l) (m : List S54) (hm : smallM m) : ∀ (n i : Nat), i + n = m.length → Ev (fun k => attr_Fits.l0 k l m (m.length : Int) (i : Int)) (fitsL l (m.drop i))
 | 0, i, hn => by
  refine ⟨1, fun k hk => ?_⟩
  obtain ⟨k, rfl⟩ : ∃ j, k = j + 1 := ⟨k - 1, by omega⟩
  dsimp only
  rw [attr_Fits.l0, if_neg (by omega), List.drop_of_length_le (show m.length ≤ i by omega)]; rfl
 | n + 1, i, hn => by
  have hi : i < m.length := by omega
  have ih := fits_l0 l hl hs m hm n (i + 1) (by omega)
  have hml := hm.1
  have hsz := getL_small hs m[i].f1
  refine Ev.succ (g := fun k => (attr_Get.f k l (m[i].f1)).bind fun bt414 => (if m[i].f0 = 1 then (if (bt414.1.toList = (m[i].f2).toList) then (attr_Fits.l0 k l m (m.length : Int) ((i + 1 : Nat) : Int)) else (some false)) else (if m[i].f0 = 2 then (if bt414.1.toList = (m[i].f2).toList then (some false) else (attr_Fits.l0 k l m (m.length : Int) ((i + 1 : Nat) : Int))) else (if m[i].f0 = 3 then ((strings_Contains.f bt414.1 (m[i].f2)).bind fun t416 => (if t416 = true then (attr_Fits.l0 k l m (m.length : Int) ((i + 1 : Nat) : Int)) else (some false))) else (if m[i].f0 = 4 then ((strings_Contains.f bt414.1 (m[i].f2)).bind fun t417 => (if t417 = true then (some false) else (attr_Fits.l0 k l m (m.length : Int) ((i + 1 : Nat) : Int)))) else (some false)))))) ?_ (fun k => by
   rw [attr_Fits.l0, if_pos (by omega), if_pos (by omega), if_pos (by omega), rd_at54 m i hi, wrap_small (n := (i : Int) + 1) (by omega) (by omega), show (i : Int) + 1 = ((i + 1 : Nat) : Int) by omega])
  refine Ev.bind (get_ev m[i].f1 l hl) ?_
  rw [drop_cons54 m i hi]
  unfold fitsL
  rw [List.all_cons]
  change Ev _ (holdB m[i] (getL m[i].f1 l).1 && fitsL l (m.drop (i + 1)))
  unfold strings_Contains.f holdB
  simp only [if_pos hsz, contains_hasL, Lib.toList_data, Option.bind_some]
  by_cases h1 : m[i].f0 = 1
  ·
   simp only [if_pos h1]
   by_cases he : (getL m[i].f1 l).1.data.toList = m[i].f2.data.toList
   ·
    simp only [if_pos he, beq_iff_eq.2 he, Bool.true_and]; exact ih
   ·
    simp only [if_neg he, beq_eq_false_iff_ne.2 he, Bool.false_and]; exact Ev.const rfl
  ·
   simp only [if_neg h1]
   by_cases h2 : m[i].f0 = 2
   ·
    simp only [if_pos h2]
    by_cases he : (getL m[i].f1 l).1.data.toList = m[i].f2.data.toList
    ·
     simp only [if_pos he, bne_eq_false_iff_eq.2 he, Bool.false_and]; exact Ev.const rfl
    ·
     simp only [if_neg he, bne_iff_ne.2 he, Bool.true_and]; exact ih
   ·
    simp only [if_neg h2]
    by_cases h3 : m[i].f0 = 3
    ·
     simp only [if_pos h3]
     cases hasL (getL m[i].f1 l).1.data.toList m[i].f2.data.toList with
     | true => simp only [if_true, Bool.true_and]; exact ih
     | false => simp only [Bool.false_eq_true, if_false, Bool.false_and]; exact Ev.const rfl
    ·
     simp only [if_neg h3]
     by_cases h4 : m[i].f0 = 4
     ·
      simp only [if_pos h4]
      cases hasL (getL m[i].f1 l).1.data.toList m[i].f2.data.toList with
      | true => simp only [if_true, Bool.not_true, Bool.false_and]; exact Ev.const rfl
      | false => simp only [Bool.false_eq_true, if_false, Bool.not_false, Bool.true_and]; exact ih
     ·
      simp only [if_neg h4, Bool.false_and]; exact Ev.const rfl
theorem fits_ev (l : List S45) (hl : l.length < 4398046511104) (hs : smallA l) (m : List S54) (hm : smallM m) : Ev (fun k => attr_Fits.f k l m) (fitsL l m) := by
 have := fits_l0 l hl hs m hm m.length 0 (by omega)
 exact this
theorem holds_ev (x : S54) (v : ByteArray) (hv : v.size < 4611686018427387904) (hx : x.f2.size ≤ 4611686018427387904) : Ev (fun k => belfryref04_Holds.f k x.f0 x.f1 x.f2 v) (holdB x v) := by
 unfold belfryref04_Holds.f holdB
 simp only [Lib.toList_data]
 by_cases h1 : x.f0 = 1
 ·
  simp only [if_pos h1]; exact Ev.const rfl
 ·
  simp only [if_neg h1]
  by_cases h2 : x.f0 = 2
  ·
   simp only [if_pos h2]; exact Ev.const rfl
  ·
   simp only [if_neg h2]
   by_cases h3 : x.f0 = 3
   ·
    simp only [if_pos h3]; exact Ev.bind (has_ev v x.f2 hv hx) (Ev.const rfl)
   ·
    simp only [if_neg h3]
    by_cases h4 : x.f0 = 4
    ·
     simp only [if_pos h4]; exact Ev.bind (has_ev v x.f2 hv hx) (Ev.const rfl)
    ·
     simp only [if_neg h4]; exact Ev.const rfl
theorem ref_fits_l0 (l : List S45) (hl : l.length < 4398046511104) (hs : smallA l) (m : List S54) (hm : smallM m) : ∀ (n i : Nat), i + n = m.length → Ev (fun k => belfryref04_Fits.l0 k l m (i : Int)) (fitsL l (m.drop i))
 | 0, i, hn => by
  refine ⟨1, fun k hk => ?_⟩
  obtain ⟨k, rfl⟩ : ∃ j, k = j + 1 := ⟨k - 1, by omega⟩
  dsimp only
  rw [belfryref04_Fits.l0, if_neg (by omega), List.drop_of_length_le (show m.length ≤ i by omega)]; rfl
 | n + 1, i, hn => by
  have hi : i < m.length := by omega
  have ih := ref_fits_l0 l hl hs m hm n (i + 1) (by omega)
  have hml := hm.1
  have hsz := getL_small hs m[i].f1
  refine Ev.succ (g := fun k => (belfryref04_Get.f k l (m[i].f1)).bind fun bt422 => ((belfryref04_Holds.f k (m[i].f0) (m[i].f1) (m[i].f2) bt422.1).bind fun t425 => (if t425 = true then (belfryref04_Fits.l0 k l m ((i + 1 : Nat) : Int)) else (some false)))) ?_ (fun k => by
   rw [belfryref04_Fits.l0, if_pos (by omega), if_pos (by omega), rd_at54 m i hi, wrap_small (n := (i : Int) + 1) (by omega) (by omega), show (i : Int) + 1 = ((i + 1 : Nat) : Int) by omega])
  refine Ev.bind (ref_get_ev m[i].f1 l hl) (Ev.bind (holds_ev m[i] _ (by omega) (hm.2 _ (List.getElem_mem hi))) ?_)
  rw [drop_cons54 m i hi]
  unfold fitsL
  rw [List.all_cons]
  change Ev _ (holdB m[i] (getL m[i].f1 l).1 && fitsL l (m.drop (i + 1)))
  cases holdB m[i] (getL m[i].f1 l).1 with
  | true => simp only [if_true, Bool.true_and]; exact ih
  | false => simp only [Bool.false_eq_true, if_false, Bool.false_and]; exact Ev.const rfl
theorem ref_fits_ev (l : List S45) (hl : l.length < 4398046511104) (hs : smallA l) (m : List S54) (hm : smallM m) : Ev (fun k => belfryref04_Fits.f k l m) (fitsL l m) := by
 have := ref_fits_l0 l hl hs m hm m.length 0 (by omega)
 exact this
end Go.Proofs.YtnfanpjfhdlddaaGreatDoor.Pr
end
section
set_option linter.unusedVariables false
set_option linter.unusedSimpArgs false
namespace Go.Proofs.YtnfanpjfhdlddaaGreatDoor.Pr
open Go.RowKit Go.Proofs.YtnfanpjfhdlddaaGreatDoorW.PrintWords Go.Proofs.YtnfanpjfhdlddaaGreatDoorW.PrintLast Go.Proofs.YtnfanpjfhdlddaaGreatDoorW.PrintMore
def plainB (s : ByteArray) : Bool := decide (s.size ≤ 256) && Lib.validD s.data.toList
theorem plain_eq (s : ByteArray) : attr_plain.f s = some (plainB s) := by
 unfold attr_plain.f utf8_ValidString.f plainB
 by_cases h : (s.size : Int) ≤ 256
 ·
  rw [if_pos h, decide_eq_true (show s.size ≤ 256 by omega), if_pos (by omega)]; rfl
 ·
  rw [if_neg h, decide_eq_false (show ¬ s.size ≤ 256 by omega)]; rfl
def wrongL : List S54 → Int
  | [] => 0
  | x :: m => if x.f0 < 1 ∨ 4 < x.f0 then 42 else if keyB x.f1 then (if plainB x.f2 then wrongL m else 41) else 40
theorem sign_nil (c : Int) : ∃ b, attr_sign.f c = some b ∧ (b.toList = ([] : List UInt8) ↔ c < 1 ∨ 4 < c) := by
 unfold attr_sign.f
 by_cases h1 : c = 1
 ·
  exact ⟨_, if_pos h1, by simp [Lib.toList_data]; omega⟩
 ·
  rw [if_neg h1]
  by_cases h2 : c = 2
  ·
   exact ⟨_, if_pos h2, by simp [Lib.toList_data]; omega⟩
  ·
   rw [if_neg h2]
   by_cases h3 : c = 3
   ·
    exact ⟨_, if_pos h3, by simp [Lib.toList_data]; omega⟩
   ·
    rw [if_neg h3]
    by_cases h4 : c = 4
    ·
     exact ⟨_, if_pos h4, by simp [Lib.toList_data]; omega⟩
    ·
     exact ⟨_, if_neg h4, by simp [Lib.toList_data]; omega⟩
theorem wrong_l0 (m : List S54) (hm : m.length < 4611686018427387904) : ∀ (n i : Nat), i + n = m.length → ∀ k, n + 70 < k → attr_wrong.l0 k m (m.length : Int) (i : Int) = some (wrongL (m.drop i))
 | _, _, _, 0, hk => absurd hk (by omega)
 | 0, i, hn, k + 1, hk => by
  rw [attr_wrong.l0, if_neg (by omega), List.drop_of_length_le (show m.length ≤ i by omega)]; rfl
 | n + 1, i, hn, k + 1, hk => by
  have hi : i < m.length := by omega
  obtain ⟨b, hb, hbn⟩ := sign_nil m[i].f0
  rw [attr_wrong.l0, if_pos (by omega), if_pos (by omega), if_pos (by omega), rd_at54 m i hi, hb, Option.bind_some, drop_cons54 m i hi, wrongL, wrap_small (n := (i : Int) + 1) (by omega) (by omega), show (i : Int) + 1 = ((i + 1 : Nat) : Int) by omega, wrong_l0 m hm n (i + 1) (by omega) k (by omega), key_eq _ k (by omega), Option.bind_some, plain_eq, Option.bind_some]
  by_cases h : m[i].f0 < 1 ∨ 4 < m[i].f0
  ·
   rw [if_pos (hbn.2 h), if_pos h]
  ·
   rw [if_neg (fun e => h (hbn.1 e)), if_neg h]
   cases keyB m[i].f1 <;> cases plainB m[i].f2 <;> simp
theorem wrong_ev (m : List S54) (hm : m.length < 4611686018427387904) : Ev (fun k => attr_wrong.f k m) (wrongL m) := by
 refine ⟨m.length + 71, fun k hk => ?_⟩
 have := wrong_l0 m hm m.length 0 (by omega) k (by omega)
 exact this
def bothL (a b : List S54) : List S54 × Int := if ((dd (sorted54 (a ++ b))).length : Int) > 8 then ([], 7) else if wrongL (a ++ b) = 0 then (dd (sorted54 (a ++ b)), 0) else ([], wrongL (a ++ b))
theorem both_ev (a b : List S54) (h : a.length + b.length ≤ 3518437208883) : Ev (fun k => attr_Both.f k a b) (bothL a b) := by
 unfold attr_Both.f bothL
 rw [show (fun k => if (a.length + b.length) * 40 ≤ 140737488355328 then (attr_wrong.f k (a ++ b)).bind fun why => if ((dd (sorted54 (a ++ b))).length : Int) > 8 then some ([], 7) else if why = 0 then some (dd (sorted54 (a ++ b)), 0) else some ([], why) else none) = fun k => (attr_wrong.f k (a ++ b)).bind fun why => if ((dd (sorted54 (a ++ b))).length : Int) > 8 then some ([], 7) else if why = 0 then some (dd (sorted54 (a ++ b)), 0) else some ([], why) from funext fun k => if_pos (by omega)]
 refine Ev.bind (wrong_ev (a ++ b) (by simp; omega)) (Ev.const ?_)
 split
 ·
  rfl
 ·
  split <;> rfl
theorem eqM_eq {x y : S54} (h : eqM x y = true) : x = y := by
 unfold eqM at h
 simp only [Bool.and_eq_true, beq_iff_eq, Lib.toList_data] at h
 obtain ⟨h0, h1, h2⟩ := h
 cases x; cases y
 simp only at h0 h1 h2
 rw [h0, bytes_ext54 h1, bytes_ext54 h2]
where
  bytes_ext54 {a b : ByteArray} (h : a.data.toList = b.data.toList) : a = b := by
    cases a; cases b; simp at h; simp [h]
theorem ddFrom_all (p : S54 → Bool) : ∀ (l : List S54) (q : S54), (q :: ddFrom q l).all p = (q :: l).all p
 | [], q => rfl
 | x :: l, q => by
  have ih := ddFrom_all p l x
  simp only [List.all_cons] at ih ⊢
  rw [ddFrom]
  split
  ·
   next h =>
   have e := eqM_eq h
   subst e
   rw [← ih]; cases p x <;> simp
  ·
   rw [List.all_cons, ih]
theorem dd_all (p : S54 → Bool) (l : List S54) : (dd l).all p = l.all p := by
 cases l with
 | nil => rfl
 | cons x l => exact ddFrom_all p l x
theorem ddFrom_mem : ∀ (l : List S54) (q x : S54), x ∈ ddFrom q l → x ∈ l
 | [], q, x, h => by simp [ddFrom] at h
 | y :: l, q, x, h => by
  rw [ddFrom] at h
  split at h
  ·
   exact List.mem_cons_of_mem _ (ddFrom_mem l y x h)
  ·
   rcases List.mem_cons.1 h with rfl | h
   ·
    exact List.mem_cons_self ..
   ·
    exact List.mem_cons_of_mem _ (ddFrom_mem l y x h)
theorem dd_mem {l : List S54} {x : S54} (h : x ∈ dd l) : x ∈ l := by
 cases l with
 | nil => exact h
 | cons y l =>
  rcases List.mem_cons.1 h with rfl | h
  ·
   exact List.mem_cons_self ..
  ·
   exact List.mem_cons_of_mem _ (ddFrom_mem l y x h)
theorem fits_both (l : List S45) (a b : List S54) : fitsL l (dd (sorted54 (a ++ b))) = (fitsL l a && fitsL l b) := by
 unfold fitsL
 rw [dd_all, ← List.all_append]
 have hp := (sorted54_perm (a ++ b)).1
 rw [Bool.eq_iff_iff, List.all_eq_true, List.all_eq_true]
 exact ⟨fun h x hx => h x (hp.mem_iff.2 hx), fun h x hx => h x (hp.mem_iff.1 hx)⟩
theorem fitsL_one (l : List S45) (x : S54) : fitsL l [x] = holdB x (getL x.f1 l).1 := by simp [fitsL]
theorem other_eq (x : S54) (h1 : 1 ≤ x.f0) (h4 : x.f0 ≤ 4) (v : ByteArray) : holdB ⟨rd [0, 2, 1, 4, 3] x.f0, x.f1, x.f2⟩ v = !holdB x v := by
 have : x.f0 = 1 ∨ x.f0 = 2 ∨ x.f0 = 3 ∨ x.f0 = 4 := by omega
 unfold holdB
 generalize v.data.toList = a
 simp only
 generalize x.f2.data.toList = b
 rcases this with e | e | e | e <;> rw [e] <;> simp [rd, bne]
theorem fits_loop (l : List S45) (hl : l.length < 4398046511104) (hs : smallA l) (m : List S54) (hm : smallM m) : ∀ (n i : Nat), i + n = m.length → Ev (fun k => belfrylaw04_AttrFits.l0 k l m [0, 2, 1, 4, 3] (i : Int)) true
 | 0, i, hn => by
  refine Ev.succ (g := fun k => belfrylaw04_AttrFits.j3 k l m [0, 2, 1, 4, 3] (i : Int) false) ?_ (fun k => by rw [belfrylaw04_AttrFits.l0, if_neg (by omega)])
  refine Ev.succ (g := fun k => (belfrylaw04_known.f k).bind fun t462 => (some t462)) ?_ (fun k => by rw [belfrylaw04_AttrFits.j3, if_neg (by simp)])
  exact Ev.bind known_ev (Ev.const rfl)
 | n + 1, i, hn => by
  have hi : i < m.length := by omega
  have hml := hm.1
  have ih := fits_loop l hl hs m hm n (i + 1) (by omega)
  refine Ev.succ (g := fun k => belfrylaw04_AttrFits.j3 k l m [0, 2, 1, 4, 3] (i : Int) (decide ((i : Int) < 20))) ?_ (fun k => by rw [belfrylaw04_AttrFits.l0, if_pos (by omega)])
  cases hd : decide ((i : Int) < 20) with
  | false =>
   refine Ev.succ (g := fun k => (belfrylaw04_known.f k).bind fun t462 => (some t462)) ?_ (fun k => by rw [belfrylaw04_AttrFits.j3, if_neg (by simp)])
   exact Ev.bind known_ev (Ev.const rfl)
  | true =>
   refine Ev.succ (g := fun k => if m[i].f0 < 1 then (belfrylaw04_AttrFits.j4 k l m [0, 2, 1, 4, 3] (i : Int) true) else (belfrylaw04_AttrFits.j4 k l m [0, 2, 1, 4, 3] (i : Int) (decide (m[i].f0 > 4)))) ?_ (fun k => by rw [belfrylaw04_AttrFits.j3, if_pos rfl, if_pos (by omega), if_pos (by omega), rd_at54 m i hi])
   have hskip : Ev (fun k => belfrylaw04_AttrFits.j4 k l m [0, 2, 1, 4, 3] (i : Int) true) true :=
    Ev.succ (g := fun k => belfrylaw04_AttrFits.l0 k l m [0, 2, 1, 4, 3] ((i + 1 : Nat) : Int)) ih (fun k => by rw [belfrylaw04_AttrFits.j4, if_pos rfl, wrap_small (n := (i : Int) + 1) (by omega) (by omega), show (i : Int) + 1 = ((i + 1 : Nat) : Int) by omega])
   by_cases h1 : m[i].f0 < 1
   ·
    simp only [if_pos h1]; exact hskip
   ·
    simp only [if_neg h1]
    by_cases h4 : m[i].f0 > 4
    ·
     rw [decide_eq_true h4]; exact hskip
    ·
     rw [decide_eq_false h4]
     have e1 : (m.take (((i + 1 : Nat) : Int)).toNat).drop ((i : Int)).toNat = [m[i]] := by
      rw [Int.toNat_natCast, Int.toNat_natCast, List.drop_take, show i + 1 - i = 1 by omega, drop_cons54 m i hi]
      rfl
     refine Ev.succ (g := fun k => (attr_Fits.f k l [m[i]]).bind fun t472 => ((attr_Fits.f k l [⟨rd [0, 2, 1, 4, 3] m[i].f0, m[i].f1, m[i].f2⟩]).bind fun t476 => (if (t472 == t476) = true then (some false) else (belfrylaw04_AttrFits.l0 k l m [0, 2, 1, 4, 3] ((i + 1 : Nat) : Int))))) ?_ (fun k => by
      rw [belfrylaw04_AttrFits.j4, if_neg (by simp), if_pos (by omega), if_pos (by omega), rd_at54 m i hi, if_pos (by omega), if_pos (by simp; omega), wrap_small (n := (i : Int) + 1) (by omega) (by omega), if_pos (by omega), if_pos (by omega), show (i : Int) + 1 = ((i + 1 : Nat) : Int) by omega, e1])
     have hx := hm.2 _ (List.getElem_mem hi)
     refine Ev.bind (fits_ev l hl hs [m[i]] ⟨by simp, fun x hx' => by rw [List.mem_singleton.1 hx']; exact hx⟩) (Ev.bind (fits_ev l hl hs [⟨rd [0, 2, 1, 4, 3] m[i].f0, m[i].f1, m[i].f2⟩] ⟨by simp, fun x hx' => by rw [List.mem_singleton.1 hx']; exact hx⟩) ?_)
     rw [fitsL_one, fitsL_one, other_eq m[i] (by omega) (by omega)]
     cases holdB m[i] (getL m[i].f1 l).1 <;> exact ih
theorem fits_law (l : List S45) (m n : List S54) (hl : l.length < 4398046511104) (hs : smallA l) (hm : smallM m) (hn : smallM n) : Ev (fun k => belfrylaw04_AttrFits.f k l m n) true := by
 unfold belfrylaw04_AttrFits.f
 have hml := hm.1
 have hnl := hn.1
 refine Ev.bind (fits_ev l hl hs m hm) (Ev.bind (fits_ev l hl hs n hn) (Ev.bind (ref_fits_ev l hl hs m hm) ?_))
 simp only [bne_self_eq_false, Bool.false_eq_true, if_false]
 refine Ev.bind (ref_fits_ev l hl hs n hn) ?_
 rw [bne_self_eq_false]
 have hj1 : Ev (fun k => belfrylaw04_AttrFits.j1 k l m false) true := by
  refine Ev.succ (g := fun k => belfrylaw04_AttrFits.l0 k l m [0, 2, 1, 4, 3] ((0 : Nat) : Int)) (fits_loop l hl hs m hm m.length 0 (by omega)) (fun k => by rw [belfrylaw04_AttrFits.j1, if_neg (by simp)]; rfl)
 refine Ev.succ (g := fun k => (attr_Both.f k m n).bind fun bt454 => (if bt454.2 = 0 then ((attr_Fits.f k l bt454.1).bind fun t458 => (if fitsL l m = true then (belfrylaw04_AttrFits.j1 k l m (t458 != fitsL l n)) else (belfrylaw04_AttrFits.j1 k l m (t458 != false)))) else (belfrylaw04_AttrFits.j1 k l m false))) ?_ (fun k => by rw [belfrylaw04_AttrFits.j0, if_neg (by simp)])
 refine Ev.bind (both_ev m n (by omega)) ?_
 by_cases h0 : (bothL m n).2 = 0
 ·
  simp only [if_pos h0]
  have hb : (bothL m n).1 = dd (sorted54 (m ++ n)) ∧ (dd (sorted54 (m ++ n))).length ≤ 8 := by
   unfold bothL at h0 ⊢
   by_cases h8 : ((dd (sorted54 (m ++ n))).length : Int) > 8
   ·
    rw [if_pos h8] at h0; cases h0
   ·
    rw [if_neg h8] at h0 ⊢
    by_cases hw : wrongL (m ++ n) = 0
    ·
     rw [if_pos hw]; exact ⟨rfl, by omega⟩
    ·
     rw [if_neg hw] at h0; exact absurd h0 hw
  obtain ⟨hb1, hb2⟩ := hb
  rw [hb1]
  refine Ev.bind (fits_ev l hl hs _ ⟨by omega, fun x hx => ?_⟩) ?_
  ·
   have := (sorted54_perm (m ++ n)).1.mem_iff.1 (dd_mem hx)
   rcases List.mem_append.1 this with h | h
   ·
    exact hm.2 x h
   ·
    exact hn.2 x h
  ·
   rw [fits_both]
   cases fitsL l m with
   | true => simp only [if_true, Bool.true_and, bne_self_eq_false]; exact hj1
   | false => simp only [Bool.false_eq_true, if_false, Bool.false_and, bne_self_eq_false]; exact hj1
 ·
  simp only [if_neg h0]; exact hj1
end Go.Proofs.YtnfanpjfhdlddaaGreatDoor.Pr
end
