import Derived.Test.YtkedidjjhhjdbaaGreatDoorD0
import Derived.Test.YtkedidjjhhjdbaaGreatDoorD10
import Derived.Test.YtkedidjjhhjdbaaGreatDoorD12
import Derived.Laws.Rows
import Derived.Laws.Tables
import Derived.Great.BuildSlice
import Derived.Test.YtkedidjjhhjdbaaGreatDoorD5
import Derived.ChangeKeysEq
section
set_option linter.unusedVariables false
set_option linter.unusedSimpArgs false
namespace Go.Proofs.YtkedidjjhhjdbaaGreatDoor.Pr
open Go.RowKit Go.Proofs.YtkedidjjhhjdbaaGreatDoorW.PrintWords Go.Proofs.YtkedidjjhhjdbaaGreatDoorW.PrintLast Go.Proofs.YtkedidjjhhjdbaaGreatDoorW.PrintMore
abbrev keyL (x : S62) : List UInt8 := x.f0.data.toList
theorem rd_at (l : List S62) (i : Nat) (h : i < l.length) : rd_T62 l (i : Int) = l[i] := by simp [rd_T62, h]
theorem drop_cons (l : List S62) (i : Nat) (h : i < l.length) : l.drop i = l[i] :: l.drop (i + 1) := List.drop_eq_getElem_cons h
def getL (key : ByteArray) : List S62 → ByteArray × Bool
  | [] => (⟨#[]⟩, false)
  | x :: l => if keyL x = key.data.toList then (x.f1, true) else getL key l
theorem get_l0 (key : ByteArray) (l : List S62) (hl : l.length < 4398046511104) : ∀ (n i : Nat), i + n = l.length → ∀ k, n < k → attr_Get.l0 k key l (l.length : Int) (i : Int) = some (getL key (l.drop i))
 | _, _, _, 0, hk => absurd hk (by omega)
 | 0, i, hn, k + 1, hk => by
  rw [attr_Get.l0, if_neg (by omega), List.drop_of_length_le (show l.length ≤ i by omega)]; rfl
 | n + 1, i, hn, k + 1, hk => by
  have hi : i < l.length := by omega
  rw [attr_Get.l0, if_pos (by omega), if_pos (by omega), if_pos (by omega), rd_at l i hi, drop_cons l i hi, getL, wrap_small (n := (i : Int) + 1) (by omega) (by omega), show (i : Int) + 1 = ((i + 1 : Nat) : Int) by omega, get_l0 key l hl n (i + 1) (by omega) k (by omega)]
  simp only [Lib.toList_data]; by_cases h : keyL l[i] = key.data.toList
  · rw [if_pos h, if_pos h]
  rw [if_neg h, if_neg h]
theorem get_ev (key : ByteArray) (l : List S62) (hl : l.length < 4398046511104) : Ev (fun k => attr_Get.f k l key) (getL key l) := by
 refine ⟨l.length + 1, fun k hk => ?_⟩
 have := get_l0 key l hl l.length 0 (by omega) k (by omega)
 exact this
def hasL : List UInt8 → List UInt8 → Bool
  | [], p => p.isEmpty
  | b :: l, p => p.isPrefixOf (b :: l) || hasL l p
theorem contains_hasL (s p : List UInt8) : Lib.contains s p = hasL s p := by
 unfold Lib.contains
 induction s with
 | nil => unfold Lib.index hasL; cases p <;> rfl
 | cons b l ih =>
  unfold Lib.index hasL
  rw [← ih]; by_cases h : p.isPrefixOf (b :: l) = true
  · rw [if_pos h, h]; rfl
  rw [if_neg h, Bool.eq_false_iff.2 h, Bool.false_or]
  have := Lib.index_ge l p
  by_cases h1 : (Lib.index l p == -1) = true
  · rw [if_pos h1, beq_iff_eq.1 h1]
  rw [if_neg h1]
  have h1' : Lib.index l p ≠ -1 := fun e => h1 (beq_iff_eq.2 e)
  rw [decide_eq_true (by omega), decide_eq_true (by omega)]
theorem hasL_short : ∀ (s p : List UInt8), s.length < p.length → hasL s p = false
 | [], p, h => by cases p with
  | nil => simp at h
  | cons a t => rfl
 | b :: l, p, h => by
  rw [hasL, hasL_short l p (by simp at h; omega), Bool.or_false]
  refine Bool.eq_false_iff.2 fun e => ?_
  have := List.IsPrefix.length_le (List.isPrefixOf_iff_prefix.1 e)
  simp at h this; omega
theorem has_l0 (s p : ByteArray) (hs : s.size < 4611686018427387904) (hp : p.size ≤ 4611686018427387904) : ∀ (n i : Nat), i + n = s.size → ∀ k, n < k → belfryref04_Has.l0 k s p (i : Int) = some (hasL (s.data.toList.drop i) p.data.toList)
 | _, _, _, 0, hk => absurd hk (by omega)
 | n, i, hn, k + 1, hk => by
  have hsl : s.data.toList.length = s.size := by simp
  have hpl : p.data.toList.length = p.size := by simp
  rw [belfryref04_Has.l0, wrap_small (n := (i : Int) + (p.size : Int)) (by omega) (by omega)]; by_cases hle : i + p.size ≤ s.size; rotate_left
  · rw [if_neg (by omega), hasL_short _ _ (by simp; omega)]
  rw [if_pos (by omega), if_pos (by omega), if_pos (by omega), Lib.extract_toList]
  have e1 : ((i : Int) + (p.size : Int)).toNat - ((i : Int)).toNat = p.data.toList.length := by omega
  have e2 : ((i : Int)).toNat = i := by omega
  rw [e1, e2]; by_cases he : (s.data.toList.drop i).take p.data.toList.length = p.toList
  ·
   rw [if_pos he]; rw [Lib.toList_data] at he
   have hpre : p.data.toList.isPrefixOf (s.data.toList.drop i) = true := List.isPrefixOf_iff_prefix.2 (by rw [← he]; exact List.take_prefix _ _)
   cases hd : s.data.toList.drop i with
   | nil => rw [hd] at hpre; rw [hasL]; cases hq : p.data.toList with
    | nil => rfl
    | cons a t => rw [hq] at hpre; simp at hpre
   | cons b l => rw [hd] at hpre; rw [hasL, hpre, Bool.true_or]
  rw [if_neg he]; rw [Lib.toList_data] at he
  have hpre : p.data.toList.isPrefixOf (s.data.toList.drop i) = false := Bool.eq_false_iff.2 fun e => he (List.prefix_iff_eq_take.1 (List.isPrefixOf_iff_prefix.1 e)).symm
  have hi : i < s.size := by
   rcases Nat.lt_or_ge i s.size with h | h
   · exact h
   exfalso
   have h0 : p.size = 0 := by omega
   have : p.data.toList = [] := List.eq_nil_of_length_eq_zero (hpl.trans h0)
   rw [this] at he; simp at he
  obtain ⟨n, rfl⟩ : ∃ m, n = m + 1 := ⟨n - 1, by omega⟩
  rw [wrap_small (n := (i : Int) + 1) (by omega) (by omega), show (i : Int) + 1 = ((i + 1 : Nat) : Int) by omega, has_l0 s p hs hp n (i + 1) (by omega) k (by omega)]
  have hd : s.data.toList.drop i = s.data.toList[i]'(by omega) :: s.data.toList.drop (i + 1) := List.drop_eq_getElem_cons (by omega)
  rw [hd] at hpre ⊢
  rw [hasL, hpre, Bool.false_or]
theorem has_ev (s p : ByteArray) (hs : s.size < 4611686018427387904) (hp : p.size ≤ 4611686018427387904) : Ev (fun k => belfryref04_Has.f k s p) (hasL s.data.toList p.data.toList) := by
 refine ⟨s.size + 1, fun k hk => ?_⟩
 have := has_l0 s p hs hp s.size 0 (by omega) k (by omega)
 exact this
theorem ref_get_l0 (key : ByteArray) (l : List S62) (hl : l.length < 4398046511104) : ∀ (n i : Nat), i + n = l.length → ∀ k, n < k → belfryref04_Get.l0 k l key (i : Int) = some (getL key (l.drop i))
 | _, _, _, 0, hk => absurd hk (by omega)
 | 0, i, hn, k + 1, hk => by
  rw [belfryref04_Get.l0, if_neg (by omega), List.drop_of_length_le (show l.length ≤ i by omega)]; rfl
 | n + 1, i, hn, k + 1, hk => by
  have hi : i < l.length := by omega
  rw [belfryref04_Get.l0, if_pos (by omega), if_pos (by omega), rd_at l i hi, drop_cons l i hi, getL, wrap_small (n := (i : Int) + 1) (by omega) (by omega), show (i : Int) + 1 = ((i + 1 : Nat) : Int) by omega, ref_get_l0 key l hl n (i + 1) (by omega) k (by omega)]
  simp only [Lib.toList_data]; by_cases h : keyL l[i] = key.data.toList
  · rw [if_pos h, if_pos h]
  rw [if_neg h, if_neg h]
theorem ref_get_ev (key : ByteArray) (l : List S62) (hl : l.length < 4398046511104) : Ev (fun k => belfryref04_Get.f k l key) (getL key l) := by
 refine ⟨l.length + 1, fun k hk => ?_⟩
 have := ref_get_l0 key l hl l.length 0 (by omega) k (by omega)
 exact this
def holdB (x : S33) (v : ByteArray) : Bool :=
  if x.f0 = 1 then v.data.toList == x.f2.data.toList else if x.f0 = 2 then v.data.toList != x.f2.data.toList else if x.f0 = 3 then hasL v.data.toList x.f2.data.toList else if x.f0 = 4 then !hasL v.data.toList x.f2.data.toList else false
def fitsL (l : List S62) (m : List S33) : Bool := m.all fun x => holdB x (getL x.f1 l).1
def smallA (l : List S62) : Prop := ∀ x ∈ l, x.f1.size < 4294967281
def smallM (m : List S33) : Prop := m.length ≤ 1048576 ∧ ∀ x ∈ m, x.f2.size ≤ 4611686018427387904
theorem getL_small {l : List S62} (h : smallA l) (key : ByteArray) : (getL key l).1.size < 4294967281 := by
 induction l with
 | nil => show (0 : Nat) < _; omega
 | cons x l ih =>
  rw [getL]
  split
  · exact h x (List.mem_cons_self ..)
  exact ih fun y hy => h y (List.mem_cons_of_mem _ hy)
theorem rd_at54 (l : List S33) (i : Nat) (h : i < l.length) : rd_T33 l (i : Int) = l[i] := by simp [rd_T33, h]
theorem drop_cons54 (l : List S33) (i : Nat) (h : i < l.length) : l.drop i = l[i] :: l.drop (i + 1) := List.drop_eq_getElem_cons h
theorem fits_l0 (l : List S62) (hl : l.length < 4398046511104) (hs : smallA l) (m : List S33) (hm : smallM m) : ∀ (n i : Nat), i + n = m.length → Ev (fun k => attr_Fits.l0 k l m (m.length : Int) (i : Int)) (fitsL l (m.drop i))
 | 0, i, hn => by
  refine ⟨1, fun k hk => ?_⟩
  obtain ⟨k, rfl⟩ : ∃ j, k = j + 1 := ⟨k - 1, by omega⟩
  dsimp only
  rw [attr_Fits.l0, if_neg (by omega), List.drop_of_length_le (show m.length ≤ i by omega)]; rfl
 | n + 1, i, hn => by
  have hi : i < m.length := by omega
  have ih := fits_l0 l hl hs m hm n (i + 1) (by omega); have hml := hm.1; have hsz := getL_small hs m[i].f1
  refine Ev.succ (g := fun k => (attr_Get.f k l (m[i].f1)).bind fun bt414 => (if m[i].f0 = 1 then (if (bt414.1.toList = (m[i].f2).toList) then (attr_Fits.l0 k l m (m.length : Int) ((i + 1 : Nat) : Int)) else (some false)) else (if m[i].f0 = 2 then (if bt414.1.toList = (m[i].f2).toList then (some false) else (attr_Fits.l0 k l m (m.length : Int) ((i + 1 : Nat) : Int))) else (if m[i].f0 = 3 then ((strings_Contains.f bt414.1 (m[i].f2)).bind fun t416 => (if t416 = true then (attr_Fits.l0 k l m (m.length : Int) ((i + 1 : Nat) : Int)) else (some false))) else (if m[i].f0 = 4 then ((strings_Contains.f bt414.1 (m[i].f2)).bind fun t417 => (if t417 = true then (some false) else (attr_Fits.l0 k l m (m.length : Int) ((i + 1 : Nat) : Int)))) else (some false)))))) ?_ (fun k => by
   rw [attr_Fits.l0, if_pos (by omega), if_pos (by omega), if_pos (by omega), rd_at54 m i hi, wrap_small (n := (i : Int) + 1) (by omega) (by omega), show (i : Int) + 1 = ((i + 1 : Nat) : Int) by omega])
  refine Ev.bind (get_ev m[i].f1 l hl) ?_
  rw [drop_cons54 m i hi]
  unfold fitsL
  rw [List.all_cons]
  change Ev _ (holdB m[i] (getL m[i].f1 l).1 && fitsL l (m.drop (i + 1)))
  unfold strings_Contains.f holdB
  simp only [if_pos hsz, contains_hasL, Lib.toList_data, Option.bind_some]; by_cases h1 : m[i].f0 = 1
  ·
   simp only [if_pos h1]; by_cases he : (getL m[i].f1 l).1.data.toList = m[i].f2.data.toList
   · simp only [if_pos he, beq_iff_eq.2 he, Bool.true_and]; exact ih
   simp only [if_neg he, beq_eq_false_iff_ne.2 he, Bool.false_and]; exact Ev.const rfl
  simp only [if_neg h1]; by_cases h2 : m[i].f0 = 2
  ·
   simp only [if_pos h2]; by_cases he : (getL m[i].f1 l).1.data.toList = m[i].f2.data.toList; rotate_left
   · simp only [if_neg he, bne_iff_ne.2 he, Bool.true_and]; exact ih
   simp only [if_pos he, bne_eq_false_iff_eq.2 he, Bool.false_and]; exact Ev.const rfl
  simp only [if_neg h2]; by_cases h3 : m[i].f0 = 3
  ·
   simp only [if_pos h3]
   cases hasL (getL m[i].f1 l).1.data.toList m[i].f2.data.toList with
   | true => simp only [if_true, Bool.true_and]; exact ih
   | false => simp only [Bool.false_eq_true, if_false, Bool.false_and]; exact Ev.const rfl
  simp only [if_neg h3]; by_cases h4 : m[i].f0 = 4; rotate_left
  · simp only [if_neg h4, Bool.false_and]; exact Ev.const rfl
  simp only [if_pos h4]
  cases hasL (getL m[i].f1 l).1.data.toList m[i].f2.data.toList with
  | true => simp only [if_true, Bool.not_true, Bool.false_and]; exact Ev.const rfl
  | false => simp only [Bool.false_eq_true, if_false, Bool.not_false, Bool.true_and]; exact ih
theorem fits_ev (l : List S62) (hl : l.length < 4398046511104) (hs : smallA l) (m : List S33) (hm : smallM m) : Ev (fun k => attr_Fits.f k l m) (fitsL l m) := by
 have := fits_l0 l hl hs m hm m.length 0 (by omega)
 exact this
theorem holds_ev (x : S33) (v : ByteArray) (hv : v.size < 4611686018427387904) (hx : x.f2.size ≤ 4611686018427387904) : Ev (fun k => belfryref04_Holds.f k x.f0 x.f1 x.f2 v) (holdB x v) := by
 unfold belfryref04_Holds.f holdB
 simp only [Lib.toList_data]; by_cases h1 : x.f0 = 1
 · simp only [if_pos h1]; exact Ev.const rfl
 simp only [if_neg h1]; by_cases h2 : x.f0 = 2
 · simp only [if_pos h2]; exact Ev.const rfl
 simp only [if_neg h2]; by_cases h3 : x.f0 = 3
 · simp only [if_pos h3]; exact Ev.bind (has_ev v x.f2 hv hx) (Ev.const rfl)
 simp only [if_neg h3]; by_cases h4 : x.f0 = 4; rotate_left
 · simp only [if_neg h4]; exact Ev.const rfl
 simp only [if_pos h4]; exact Ev.bind (has_ev v x.f2 hv hx) (Ev.const rfl)
theorem ref_fits_l0 (l : List S62) (hl : l.length < 4398046511104) (hs : smallA l) (m : List S33) (hm : smallM m) : ∀ (n i : Nat), i + n = m.length → Ev (fun k => belfryref04_Fits.l0 k l m (i : Int)) (fitsL l (m.drop i))
 | 0, i, hn => by
  refine ⟨1, fun k hk => ?_⟩
  obtain ⟨k, rfl⟩ : ∃ j, k = j + 1 := ⟨k - 1, by omega⟩
  dsimp only
  rw [belfryref04_Fits.l0, if_neg (by omega), List.drop_of_length_le (show m.length ≤ i by omega)]; rfl
 | n + 1, i, hn => by
  have hi : i < m.length := by omega
  have ih := ref_fits_l0 l hl hs m hm n (i + 1) (by omega); have hml := hm.1; have hsz := getL_small hs m[i].f1
  refine Ev.succ (g := fun k => (belfryref04_Get.f k l (m[i].f1)).bind fun bt422 => ((belfryref04_Holds.f k (m[i].f0) (m[i].f1) (m[i].f2) bt422.1).bind fun t425 => (if t425 = true then (belfryref04_Fits.l0 k l m ((i + 1 : Nat) : Int)) else (some false)))) ?_ (fun k => by
   rw [belfryref04_Fits.l0, if_pos (by omega), if_pos (by omega), rd_at54 m i hi, wrap_small (n := (i : Int) + 1) (by omega) (by omega), show (i : Int) + 1 = ((i + 1 : Nat) : Int) by omega])
  refine Ev.bind (ref_get_ev m[i].f1 l hl) (Ev.bind (holds_ev m[i] _ (by omega) (hm.2 _ (List.getElem_mem hi))) ?_)
  rw [drop_cons54 m i hi]
  unfold fitsL
  rw [List.all_cons]
  change Ev _ (holdB m[i] (getL m[i].f1 l).1 && fitsL l (m.drop (i + 1)))
  cases holdB m[i] (getL m[i].f1 l).1 with
  | true => simp only [if_true, Bool.true_and]; exact ih
  | false => simp only [Bool.false_eq_true, if_false, Bool.false_and]; exact Ev.const rfl
theorem ref_fitsA_ev (l : List S62) (hl : l.length < 4398046511104) (hs : smallA l) (m : List S33) (hm : smallM m) : Ev (fun k => belfryref04_Fits.f k l m) (fitsL l m) := by
 have := ref_fits_l0 l hl hs m hm m.length 0 (by omega)
 exact this
theorem fitsL_one (l : List S62) (x : S33) : fitsL l [x] = holdB x (getL x.f1 l).1 := by simp [fitsL]
theorem other_holds (x : S33) (h1 : 1 ≤ x.f0) (h4 : x.f0 ≤ 4) (v : ByteArray) : holdB ⟨rd [0, 2, 1, 4, 3] x.f0, x.f1, x.f2⟩ v = !holdB x v := by
 have : x.f0 = 1 ∨ x.f0 = 2 ∨ x.f0 = 3 ∨ x.f0 = 4 := by omega
 unfold holdB
 generalize v.data.toList = a
 simp only
 generalize x.f2.data.toList = b
 rcases this with e | e | e | e <;> rw [e] <;> simp [rd, bne]
def inB (ks : List ByteArray) (s : ByteArray) : Bool := ks.any fun a => a.data.toList == s.data.toList
theorem rdOf_atB (ks : List ByteArray) (i : Nat) (h : i < ks.length) : rdOf ByteArray.empty ks (i : Int) = ks[i] := by simp [rdOf, h]
theorem index_l0B (ks : List ByteArray) (s : ByteArray) (hks : ks.length < 4611686018427387904) : ∀ (n i : Nat), i + n = ks.length → ∃ r : Int, decide (r ≥ 0) = inB (ks.drop i) s ∧ ∀ k, n < k → slices_Index_string_string.l0 k ks s (ks.length : Int) (i : Int) = some r
 | 0, i, hn => ⟨-1, by rw [List.drop_of_length_le (show ks.length ≤ i by omega)]; rfl, fun k hk => by
  obtain ⟨k, rfl⟩ : ∃ j, k = j + 1 := ⟨k - 1, by omega⟩
  rw [slices_Index_string_string.l0, if_neg (by omega)]⟩
 | n + 1, i, hn => by
  have hi : i < ks.length := by omega
  obtain ⟨r, hr, hk'⟩ := index_l0B ks s hks n (i + 1) (by omega)
  have hd : ks.drop i = ks[i] :: ks.drop (i + 1) := List.drop_eq_getElem_cons hi
  by_cases h : s.data.toList = ks[i].data.toList
  ·
   refine ⟨i, ?_, fun k hk => ?_⟩
   · rw [hd, inB, List.any_cons, h]; simp
   obtain ⟨k, rfl⟩ : ∃ j, k = j + 1 := ⟨k - 1, by omega⟩
   rw [slices_Index_string_string.l0, if_pos (by omega), if_pos (by omega), if_pos (by omega), rdOf_atB ks i hi]; simp only [Lib.toList_data]; rw [if_pos h]
  refine ⟨r, ?_, fun k hk => ?_⟩
  · rw [hd, inB, List.any_cons, beq_eq_false_iff_ne.2 (fun e => h e.symm), Bool.false_or]; exact hr
  obtain ⟨k, rfl⟩ : ∃ j, k = j + 1 := ⟨k - 1, by omega⟩
  rw [slices_Index_string_string.l0, if_pos (by omega), if_pos (by omega), if_pos (by omega), rdOf_atB ks i hi]; simp only [Lib.toList_data]; rw [if_neg h, wrap_small (n := (i : Int) + 1) (by omega) (by omega)]
  exact hk' k (by omega)
theorem contains_evB (ks : List ByteArray) (s : ByteArray) (hks : ks.length < 4611686018427387904) : Ev (fun k => slices_Contains_string_string.f k ks s) (inB ks s) := by
 obtain ⟨r, hr, hk⟩ := index_l0B ks s hks ks.length 0 (by omega)
 refine ⟨ks.length + 1, fun k hk' => ?_⟩
 dsimp only
 unfold slices_Contains_string_string.f slices_Index_string_string.f
 have := hk k (by omega)
 rw [show ((0 : Nat) : Int) = 0 from rfl] at this; rw [this, Option.bind_some, hr]; rfl
def woK (ks : List ByteArray) (l : List S62) : List S62 := l.filter fun x => !inB ks x.f0
theorem wok_l0 (ks : List ByteArray) (hks : ks.length < 4611686018427387904) (l : List S62) (hl : l.length < 4398046511104) : ∀ (n i : Nat) (m : List S62), i + n = l.length → m.length ≤ i → Ev (fun k => attr_Without.l0 k ks m l (l.length : Int) (i : Int)) (m ++ woK ks (l.drop i))
 | 0, i, m, hn, hm => by
  refine ⟨1, fun k hk => ?_⟩
  obtain ⟨k, rfl⟩ : ∃ j, k = j + 1 := ⟨k - 1, by omega⟩
  dsimp only
  rw [attr_Without.l0, if_neg (by omega), List.drop_of_length_le (show l.length ≤ i by omega)]
  simp [woK]
 | n + 1, i, m, hn, hm => by
  have hi : i < l.length := by omega
  obtain ⟨C, hC⟩ := contains_evB ks l[i].f0 hks
  obtain ⟨K1, h1⟩ := wok_l0 ks hks l hl n (i + 1) m (by omega) (by omega)
  obtain ⟨K2, h2⟩ := wok_l0 ks hks l hl n (i + 1) (m ++ [l[i]]) (by omega) (by simp; omega)
  refine ⟨C + K1 + K2 + 1, fun k hk => ?_⟩
  obtain ⟨k, rfl⟩ : ∃ j, k = j + 1 := ⟨k - 1, by omega⟩
  have hC' := hC k (by omega); have h1' := h1 k (by omega); have h2' := h2 k (by omega)
  dsimp only at hC' h1' h2' ⊢
  rw [attr_Without.l0, if_pos (by omega), if_pos (by omega), if_pos (by omega), rd_at l i hi, hC', Option.bind_some, wrap_small (n := (i : Int) + 1) (by omega) (by omega), drop_cons l i hi]
  unfold woK
  rw [List.filter_cons]
  cases h : inB ks l[i].f0 with
  | true =>
   rw [if_pos rfl, if_neg (by simp)]; exact h1'
  | false =>
   rw [if_neg (by simp), if_pos (by omega), if_pos (by simp)]
   refine h2'.trans ?_
   simp [woK]
theorem wok_ev (ks : List ByteArray) (hks : ks.length < 4611686018427387904) (l : List S62) (hl : l.length < 4398046511104) : Ev (fun k => attr_Without.f k l ks) (woK ks l) := by
 have := wok_l0 ks hks l hl l.length 0 [] (by omega) (Nat.le_refl _)
 exact this
theorem woK_len (ks : List ByteArray) (l : List S62) : (woK ks l).length ≤ l.length := List.length_filter_le _ _
end Go.Proofs.YtkedidjjhhjdbaaGreatDoor.Pr
end
section
set_option linter.unusedVariables false
set_option linter.unusedSimpArgs false
namespace Go.Proofs.YtkedidjjhhjdbaaGreatDoor.Pr
open Go.RowKit Go.Proofs.YtkedidjjhhjdbaaGreatDoorW.PrintWords Go.Proofs.YtkedidjjhhjdbaaGreatDoorW.PrintLast Go.Proofs.YtkedidjjhhjdbaaGreatDoorW.PrintMore
def z52 : Array Value := #[.int .i64 0, .string ⟨#[]⟩, .slice none 0 0, .int .i64 0, .int .i64 0, .int .i64 0, .int .i64 0, .string ⟨#[]⟩, .int .u8 0, .int .u8 0, .int .u8 0, .int .u8 0, .int .u8 0, .int .u8 0, .int .u8 0, .int .u8 0, .int .u8 0, .int .u8 0, .int .u8 0, .int .u8 0, .int .u8 0, .int .u8 0, .int .u8 0, .int .u8 0, .int .u8 0, .int .u8 0, .int .u8 0, .int .u8 0, .int .u8 0, .int .u8 0, .int .u8 0, .int .u8 0, .int .u8 0, .int .u8 0, .int .u8 0, .int .u8 0, .int .u8 0, .int .u8 0, .int .u8 0, .int .u8 0]
def policy_Sees.go (k : Nat) (ts : List S62) : List S31 → Option (Option (List S62))
  | [] => some none
  | x :: xs => (attr_Fits.f k ts x.f1).bind fun b => if b = true then (attr_Without.f k ts x.f2).map some else policy_Sees.go k ts xs
def Seen52 (cs : Array Value) (base : Nat) (r : Option (List S62)) (e : Ending) (w' : World) : Prop :=
  match r with
  | none => e = .returned (.tuple #[.agg z52, .bool false])
  | some ts' => ∃ v, e = .returned (.tuple #[.agg (cs.setIfInBounds 2 v), .bool true]) ∧ Kd.R k62 62 w' base (fun _ => True) v ts'
theorem below_setRow {B : Nat} {w W : World} (h : Below B w W) {g : Nat} (hg : B ≤ g) (cs : Array Value) : Below B w (W.setRow g cs) := by
 refine ⟨h.os, h.tape, h.output, by simpa [World.setRow] using h.size, fun i hi => ?_⟩
 rw [← h.block i hi]
 show (W.heap.modify g _)[i]? = _
 rw [Array.getElem?_modify, if_neg (by omega)]
theorem blk_setRow {W : World} {g t : Nat} {old cs : Array Value} (h : W.heap[g]? = some (.cells old t (0, 0))) : (W.setRow g cs).heap[g]? = some (.cells cs t (0, 0)) := setRow_heap W g old cs t (0, 0) h
theorem results_cell_tmp {P : Program} {fn : Func} {p u : Tmp} {ty : TypeId} (h : fn.results = #[.cell p ty, .tmp u]) (tmps : Array Value) (w : World) (g : Nat) (t : TypeId) (cs : Array Value) (fr : Nat × Nat) (d : TypeDesc)
  (hp : tmps.getD p undef = .pointer (some ⟨g, 0, none⟩)) (hg : w.heap[g]? = some (.cells cs t fr))
  (hu : P.underlying ty = some d) (hd : (match d with | .struct _ | .array _ _ => true | _ => false) = true) (hi : (P.info? ty).map (·.size) = some cs.size) :
  (results fn tmps).run P w = .ok (.tuple #[.agg cs, tmps.getD u undef]) w := by
 have hp' : tmps[p]?.getD undef = .pointer (some ⟨g, 0, none⟩) := by simpa using hp
 simp [results, h, hp', asAddr, run_loadVar_row w g t ty cs fr d hg hu hd hi]
theorem R_setRow {α : Type} {d : Kd α} {e : Nat} {w : World} {base : Nat} {ok : Nat → Prop} {v : Value} {xs : List α} (h : d.R e w base ok v xs) {g t : Nat} {cells : Array Value} (hb : w.heap[g]? = some (.cells cells t (0, 0))) (ht : ∀ q, q ∈ e :: d.E → q ≠ t) (cs : Array Value) : d.R e (w.setRow g cs) base ok v xs :=
 Kd.R_mono (Kd.R_step (Kd.R_types h hb ht) (fun k hk _ => by
  show (w.heap.modify g _)[k]? = _
  rw [Array.getElem?_modify, if_neg (fun e => hk.2 e.symm)])) (fun _ hk => hk.1)
set_option maxHeartbeats 8000000 in
set_option maxRecDepth 100000 in
theorem policy_Sees.calls (k : Nat) (A : Option Addr) (c : Nat) (vs : List S31) (cs : Array Value) (B : Option Addr) (cb : Nat) (ts : List S62) (r : Option (List S62)) (w : World)
  (hv : Kd.C k31 w A vs.length vs) (hvc : vs.length ≤ c) (hs : cs.size = 40) (h1 : cs.all (·.oneCell') = true) (h2 : cs[2]? = some (.slice B ts.length cb)) (ha : Kd.C k62 w B ts.length ts) (hac : ts.length ≤ cb)
  (h : policy_Sees.go k ts vs = some r) (he : EnvW w) :
  Calls Tryz.prog 25 #[.slice A vs.length c, .agg cs] w fun e w' => Seen52 cs w.heap.size r e w' ∧ Below w.heap.size w w' := by
 have hu52 := Tryz.underlying52; have hu31 := Tryz.underlying31; have hvm := Kd.C_max hv; have HV := Aside0.mk hv; have HA := Aside0.mk ha; have H1 := Aside0.mk h1; have HE := Aside0.mk he; clear hv ha h1 he
 go_enter Tryz.func25, Tryz.ntmps25
 go_wp2
 have hz : Aside0 (((w.alloc (.cells cs 52)).alloc (.cells z52 52)).heap[w.heap.size]? = some (.cells cs 52 (0, 0)) ∧ ((w.alloc (.cells cs 52)).alloc (.cells z52 52)).heap[w.heap.size + 1]? = some (.cells z52 52 (0, 0)) ∧ Below w.heap.size w ((w.alloc (.cells cs 52)).alloc (.cells z52 52))) := by
  refine ⟨blk_alloc (blk_new w _) _, ?_, below_alloc (below_alloc (Below.refl _ _) _) _⟩
  have := blk_new (w.alloc (.cells cs 52)) (.cells z52 52)
  simpa using this
 have hzz := hz.out
 unfold z52 at hzz
 obtain ⟨W0, hW0⟩ : ∃ W, W = ((w.alloc (.cells cs 52)).alloc (.cells z52 52)) := ⟨_, rfl⟩
 have hW0' := hW0
 unfold z52 at hW0'
 rw [← hW0'] at ⊢
 rw [← hW0] at hz; clear hzz hW0 hW0'
 go_loopw [10] (fun v10 ws => ∃ i : Nat, i ≤ vs.length ∧ v10 = .int .i64 i ∧ Aside0 (policy_Sees.go k ts (vs.drop i) = some r) ∧ Aside0 (ws.heap[w.heap.size]? = some (.cells cs 52 (0, 0)) ∧ ws.heap[w.heap.size + 1]? = some (.cells z52 52 (0, 0)) ∧ Below w.heap.size w ws)) (fun v10 _ => vs.length - (intOf v10).toNat)
 case atStart => exact ⟨0, Nat.zero_le _, rfl, ⟨h⟩, hz⟩
 case round =>
  clear hz h
  obtain ⟨i, hi, rfl, HH, HB⟩ := hrel
  by_cases hlt : i < vs.length; rotate_left
  ·
   obtain rfl : i = vs.length := by omega
   have b2 : decide (((vs.length : Nat) : Int) < (vs.length : Int)) = false := decide_eq_false (by omega)
   have b3 : decide (vs.length < vs.length) = false := decide_eq_false hlt
   have hr := HH.out; rw [List.drop_length] at hr
   obtain rfl := Option.some.inj hr
   go_wp2_with (refine Go.wpList_buildTo rfl 52 #[] rfl (some 27) rfl z52 (by kernel_rfl) (Aside0.out ?_))
   refine ⟨?_⟩
   refine wpList_store_rowTo rfl 52 (.tmp 4) (.tmp 27) rfl rfl (w.heap.size + 1) z52 rfl rfl 52 z52 HB.out.2.1 (by kernel_rfl) rfl (by kernel_rfl) ?_
   go_wp2
   refine bodyPost_ret (results_cell_tmp rfl _ _ (w.heap.size + 1) 52 z52 (0, 0) _ rfl (blk_setRow HB.out.2.1) hu52 rfl (by kernel_rfl)) rfl ?_
   exact ⟨rfl, below_setRow HB.out.2.2 (by omega) _⟩
  have b2 : decide ((i : Int) < (vs.length : Int)) = true := decide_eq_true (by omega)
  have b3 : decide (i < vs.length) = true := decide_eq_true hlt
  have p0 := eq_true (show (0 : Int) ≤ (i : Int) by omega)
  have q0 := eq_true (show (i : Int) < (vs.length : Int) by omega)
  have HV2 := Aside0.mk (Kd.C_below HV.out HB.out.2.2)
  obtain ⟨ad, A1, c1, A2, c2, rfl, hx0, hx1, hx2, l1, g1, l2, g2⟩ := at_T31 HV2.out (i : Int) (by omega) (by omega)
  simp only [Int.toNat_natCast] at hx0 hx1 hx2
  have hrd : rd_T31 vs (i : Int) = vs[i] := by simp [rd_T31, List.getD_eq_getElem?_getD, List.getElem?_eq_getElem hlt]
  rw [hrd] at hx0 hx1 hx2 l1 g1 l2 g2
  obtain ⟨x, hx⟩ : ∃ x, x = vs[i] := ⟨_, rfl⟩
  rw [← hx] at hx0 hx1 hx2 l1 g1 l2 g2
  have HG1 := Aside0.mk g1; have HG2 := Aside0.mk g2; clear g1 g2 hrd
  have hc2 : ∀ o, (wr.alloc o).cell? ⟨w.heap.size, 2, none⟩ = some (.slice B ts.length cb) := fun o => (blk_cell (blk_alloc HB.out.1 o) 2).trans h2
  have HH2 : Aside0 ((attr_Fits.f k ts x.f1).bind (fun b => if b = true then (attr_Without.f k ts x.f2).map some else policy_Sees.go k ts (vs.drop (i + 1))) = some r) := by
   have := HH.out
   rw [List.drop_eq_getElem_cons hlt] at this; rw [hx]
   exact ⟨this⟩
  clear HH
  obtain ⟨bf, hbf, hrest⟩ := Option.bind_eq_some_iff.mp HH2.out
  have HF := Aside0.mk hbf; have HR := Aside0.mk hrest; clear hbf hrest HH2 hx
  go_wp2_with fail
  refine (attr_Fits.calls k B cb ts A1 c1 x.f1 bf _ (Kd.C_alloc (Kd.C_below HA.out HB.out.2.2) _) hac (Kd.C_alloc HG1.out _) l1 HF.out (env_alloc (env_below HE.out HB.out.2.2))).mono ?_
  rintro e w1 ⟨rfl, hb1⟩
  have hB1 : Aside0 (w1.heap[w.heap.size]? = some (.cells cs 52 (0, 0)) ∧ w1.heap[w.heap.size + 1]? = some (.cells z52 52 (0, 0)) ∧ w1.heap[wr.heap.size]? = some (.cells #[.string x.f0, .slice A1 x.f1.length c1, .slice A2 x.f2.length c2] 31 (0, 0)) ∧ Below w.heap.size w w1 ∧ Kd.C Kd.string w1 A2 x.f2.length x.f2) :=
   ⟨blk_below (blk_alloc HB.out.1 _) hb1, blk_below (blk_alloc HB.out.2.1 _) hb1, blk_below (blk_new wr _) hb1, (below_alloc HB.out.2.2 _).trans (hb1.mono (below_alloc HB.out.2.2 _).size), Kd.C_below (Kd.C_alloc HG2.out _) hb1⟩
  clear hb1 hx0 hx1 hx2 hc2 HG1 HG2 HF
  have hc2 : w1.cell? ⟨w.heap.size, 2, none⟩ = some (.slice B ts.length cb) := (blk_cell hB1.out.1 2).trans h2
  have hcx : w1.cell? ⟨wr.heap.size, 2, none⟩ = some (.slice A2 x.f2.length c2) := blk_cell hB1.out.2.2.1 2
  cases bf with
  | false =>
   go_wp2
   go_roundw
   case rel => exact ⟨i + 1, hlt, by go_num, HR, ⟨hB1.out.1, hB1.out.2.1, hB1.out.2.2.2.1⟩⟩
   case measure => simp [intOf]; omega
  | true =>
   obtain ⟨ys, hys, rfl⟩ := Option.map_eq_some_iff.mp HR.out
   have HW := Aside0.mk hys; clear HR hys
   go_wp2_with fail
   refine (attr_Without.calls k B cb ts A2 c2 x.f2 ys w1 (Kd.C_below HA.out hB1.out.2.2.2.1) hac hB1.out.2.2.2.2 l2 HW.out).mono ?_
   rintro e w2 ⟨v, rfl, hR2, hb2⟩
   obtain ⟨AV, cV, rfl⟩ := Kd.R_slice hR2
   have hB2 : Aside0 (w2.heap[w.heap.size]? = some (.cells cs 52 (0, 0)) ∧ w2.heap[w.heap.size + 1]? = some (.cells z52 52 (0, 0)) ∧ Below w.heap.size w w2) := ⟨blk_below hB1.out.1 hb2, blk_below hB1.out.2.1 hb2, hB1.out.2.2.2.1.trans (hb2.mono hB1.out.2.2.2.1.size)⟩
   have HR2 := Aside0.mk (Kd.R_lower hR2 hB1.out.2.2.2.1.size); clear hB1 hc2 hcx hb2 hR2 HW
   have hc2 : w2.cell? ⟨w.heap.size, 2, none⟩ = some (.slice B ts.length cb) := (blk_cell hB2.out.1 2).trans h2
   have hf2 : w2.frozen? ⟨w.heap.size, 2, none⟩ = false := blk_frozen hB2.out.1 2
   have hpa : (cs.setIfInBounds 2 (.slice AV ys.length cV)).size = 40 := by simp [hs]
   have hpb : (cs.setIfInBounds 2 (.slice AV ys.length cV)).all (·.oneCell') = true := by
    rw [Array.all_eq_true]; intro j hj; rw [Array.getElem_setIfInBounds (by simpa using hj)]
    split
    · rfl
    exact (Array.all_eq_true.mp H1.out) j (by simpa using hj)
   have hp1 := blk_set hB2.out.1 2 (.slice AV ys.length cV)
   have hp2 : (w2.setCell ⟨w.heap.size, 2, none⟩ (.slice AV ys.length cV)).heap[w.heap.size + 1]? = some (.cells z52 52 (0, 0)) := blk_far hB2.out.2.1 (by simp) _
   have hp3 : Below w.heap.size w (w2.setCell ⟨w.heap.size, 2, none⟩ (.slice AV ys.length cV)) := hB2.out.2.2.setCell (by simp) _
   have hp4 := Kd.R_set HR2.out hB2.out.1 (by decide) 2 (.slice AV ys.length cV)
   obtain ⟨W, hW⟩ : ∃ W, W = w2.setCell ⟨w.heap.size, 2, none⟩ (.slice AV ys.length cV) := ⟨_, rfl⟩
   obtain ⟨ns, hns⟩ : ∃ ns, ns = cs.setIfInBounds 2 (.slice AV ys.length cV) := ⟨_, rfl⟩
   rw [← hns] at hpa hpb hp1
   rw [← hW] at hp1 hp2 hp3 hp4
   have HP := Aside0.mk (And.intro hp1 (And.intro hp2 (And.intro hp3 (And.intro hp4 (And.intro hpa hpb))))); clear hp1 hp2 hp3 hp4 hpa hpb; rw [hns, hW] at HP
   go_wp2_with (refine wpList_load_row rfl 52 (.tmp 3) rfl w.heap.size rfl 52 (cs.setIfInBounds 2 (.slice AV ys.length cV)) (0, 0) _ HP.out.1 hu52 rfl (by rw [HP.out.2.2.2.2.1]; kernel_rfl) (Aside0.out ?_))
   refine ⟨?_⟩
   refine wpList_store_rowTo rfl 52 (.tmp 4) (.tmp 25) rfl rfl (w.heap.size + 1) (cs.setIfInBounds 2 (.slice AV ys.length cV)) rfl rfl 52 z52 HP.out.2.1 (by rw [HP.out.2.2.2.2.1]; kernel_rfl) (by rw [HP.out.2.2.2.2.1]; rfl) HP.out.2.2.2.2.2 ?_
   go_wp2
   refine bodyPost_ret (results_cell_tmp rfl _ _ (w.heap.size + 1) 52 (cs.setIfInBounds 2 (.slice AV ys.length cV)) (0, 0) _ rfl (blk_setRow HP.out.2.1) hu52 rfl (by rw [HP.out.2.2.2.2.1]; kernel_rfl)) rfl ?_
   exact ⟨⟨_, rfl, R_setRow HP.out.2.2.2.1 HP.out.2.1 (by decide) _⟩, below_setRow HP.out.2.2.1 (by omega) _⟩
end Go.Proofs.YtkedidjjhhjdbaaGreatDoor.Pr
end
section
set_option linter.unusedVariables false
set_option linter.unusedSimpArgs false
namespace Go.Proofs.YtkedidjjhhjdbaaGreatDoor.Pr
open Go.RowKit Go.Proofs.YtkedidjjhhjdbaaGreatDoorW.PrintWords Go.Proofs.YtkedidjjhhjdbaaGreatDoorW.PrintLast Go.Proofs.YtkedidjjhhjdbaaGreatDoorW.PrintMore
def seesR (ts : List S62) : List S31 → Option (List S62)
  | [] => none
  | x :: xs => if fitsL ts x.f1 = true then some (woK x.f2 ts) else seesR ts xs
def smallV (vs : List S31) : Prop := ∀ x ∈ vs, smallM x.f1 ∧ x.f2.length < 4611686018427387904
theorem sees_ev (ts : List S62) (hl : ts.length < 4398046511104) (hs : smallA ts) : ∀ vs : List S31, smallV vs → Ev (fun k => policy_Sees.go k ts vs) (seesR ts vs)
 | [], _ => Ev.const rfl
 | x :: xs, h => by
  have hx := h x (List.mem_cons_self ..)
  have ih := sees_ev ts hl hs xs (fun y hy => h y (List.mem_cons_of_mem _ hy))
  refine Ev.of_eq (g := fun k => (attr_Fits.f k ts x.f1).bind fun b => if b = true then (attr_Without.f k ts x.f2).map some else policy_Sees.go k ts xs) ?_ (fun k => rfl)
  refine Ev.bind (fits_ev ts hl hs x.f1 hx.1) ?_
  rw [seesR]
  cases fitsL ts x.f1 with
  | true =>
   obtain ⟨K, hK⟩ := wok_ev x.f2 hx.2 ts hl
   exact ⟨K, fun k hk => congrArg (Option.map some) (hK k hk)⟩
  | false => exact ih
theorem seesR_len (ts : List S62) : ∀ (vs : List S31) (ys : List S62), seesR ts vs = some ys → ys.length ≤ ts.length
 | [], ys, h => by cases h
 | x :: xs, ys, h => by
  rw [seesR] at h
  split at h
  rotate_left
  · exact seesR_len ts xs ys h
  obtain rfl := Option.some.inj h
  exact woK_len _ _
theorem sameA_refl (m : List S62) (hm : m.length < 4611686018427387904) : Ev (fun k => belfryref04_Same.f k m m) true := by
 unfold belfryref04_Same.f
 simp only [if_true]
 have : ∀ (n i : Nat), i + n = m.length → Ev (fun k => belfryref04_Same.l0 k m m (i : Int)) true := by
  intro n
  induction n with
  | zero => intro i hin; exact Ev.succ (g := fun _ => some true) (Ev.const rfl) (fun k => by rw [belfryref04_Same.l0, if_neg (by omega)])
  | succ n ih =>
   intro i hin
   exact Ev.succ (ih (i + 1) (by omega)) (fun k => by
    rw [belfryref04_Same.l0, if_pos (by omega), if_pos (by omega), if_pos (by omega), if_neg (by simp), wrap_small (n := (i : Int) + 1) (by omega) (by omega), show (i : Int) + 1 = ((i + 1 : Nat) : Int) by omega])
 exact this m.length 0 (by omega)
end Go.Proofs.YtkedidjjhhjdbaaGreatDoor.Pr
end
section
set_option linter.unusedVariables false
set_option linter.unusedSimpArgs false
namespace Go.Proofs.YtkedidjjhhjdbaaGreatDoor.Pr
open Go.RowKit Go.Proofs.YtkedidjjhhjdbaaGreatDoorW.PrintWords Go.Proofs.YtkedidjjhhjdbaaGreatDoorW.PrintLast Go.Proofs.YtkedidjjhhjdbaaGreatDoorW.PrintMore
theorem seesR_some (ts : List S62) : ∀ vs : List S31, (seesR ts vs).isSome = vs.any fun x => fitsL ts x.f1
 | [] => rfl
 | x :: xs => by
  rw [seesR, List.any_cons]
  cases fitsL ts x.f1 with
  | true => rfl
  | false => simp only [Bool.false_eq_true, if_false, Bool.false_or]; exact seesR_some ts xs
theorem bothL_ok {a b : List S33} (h : (bothL a b).2 = 0) : (insAllU [] (a ++ b)).length ≤ 8 ∧ wrongL (a ++ b) = 0 ∧ (bothL a b).1 = insAllU [] (a ++ b) := by
 unfold bothL at h ⊢
 split at h
 · cases h
 rename_i hl
 split at h
 rotate_left
 · rename_i hw; exact absurd h hw
 rename_i hw
 rw [if_neg hl, if_pos hw]
 exact ⟨by omega, hw, rfl⟩
end Go.Proofs.YtkedidjjhhjdbaaGreatDoor.Pr
end
section
set_option linter.unusedVariables false
set_option linter.unusedSimpArgs false
namespace Go.Proofs.YtkedidjjhhjdbaaGreatDoor.Pr
open Go.RowKit
theorem eqItems_ints {P : Program} {e : TypeId} {k k' : IntKind} (he : P.underlying e = some (.int k')) (hpk : P.plainKey e = true) (d : Nat) (xs ys : List Int) (w : World) :
  ∀ is : List Nat, (∀ i ∈ is, i < xs.length ∧ i < ys.length) → (Op.eqItems (d + 1) e 1 (xs.map (Value.int k)).toArray (ys.map (Value.int k)).toArray is).run P w = .ok (is.all fun i => xs.getD i 0 == ys.getD i 0) w
 | [], _ => by simp [Op.eqItems]
 | i :: is, h => by
  have ih := eqItems_ints (k := k) he hpk d xs ys w is (fun j hj => h j (List.mem_cons_of_mem _ hj))
  obtain ⟨hx, hy⟩ := h i (List.mem_cons_self ..)
  have p1 : (part e (xs.map (Value.int k)).toArray (i * 1)).run P w = .ok (.int k (xs.getD i 0)) w := Go.run_part_plain (P := P) w hpk (by simp [Nat.mul_one, List.getElem?_eq_getElem hx])
  have p2 : (part e (ys.map (Value.int k)).toArray (i * 1)).run P w = .ok (.int k (ys.getD i 0)) w := Go.run_part_plain (P := P) w hpk (by simp [Nat.mul_one, List.getElem?_eq_getElem hy])
  have p3 := run_equalIn_int (P := P) (w := w) d e k k' (xs.getD i 0) (ys.getD i 0) he; simp only [Op.eqItems, Sem.run_bind, p1, p2, p3, Result.andThen_ok, ih, List.all_cons]
  cases hq : (xs.getD i 0 == ys.getD i 0) <;> simp [ih]
theorem all_range_eq (xs ys : List Int) (h : xs.length = ys.length) : ((List.range xs.length).all fun i => xs.getD i 0 == ys.getD i 0) = (xs == ys) := by
 rw [Bool.eq_iff_iff, List.all_eq_true]
 constructor
 rotate_left
 ·
  intro hh i hi; rw [beq_iff_eq] at hh; subst hh
  simp
 intro hh; rw [beq_iff_eq]
 refine List.ext_getElem h fun i h1 h2 => ?_
 have := hh i (List.mem_range.2 h1)
 simpa [List.getD_eq_getElem?_getD, List.getElem?_eq_getElem h1, List.getElem?_eq_getElem h2] using this
theorem eqArr {P : Program} {t e : TypeId} {n : Nat} {k k' : IntKind} (hu : P.underlying t = some (.array n e)) (hi : (P.info? e).isSome = true) (hc : P.cellsOf e = 1) (he : P.underlying e = some (.int k')) (hpk : P.plainKey e = true) (d : Nat) (xs ys : List Int) (hx : xs.length = n) (hy : ys.length = n) (w : World) :
  (Op.equalIn (d + 2) t (.agg (xs.map (Value.int k)).toArray) (.agg (ys.map (Value.int k)).toArray)).run P w = .ok (xs == ys) w := by
 obtain ⟨inf, hi⟩ := Option.isSome_iff_exists.mp hi
 rw [run_equalIn_array (P := P) (w := w) (d + 1) _ _ hu hi, hc, eqItems_ints he hpk d xs ys w _ (fun i h => by have := List.mem_range.1 h; omega)]
 subst hx; rw [all_range_eq xs ys hy.symm]
end Go.Proofs.YtkedidjjhhjdbaaGreatDoor.Pr
end
section
set_option linter.unusedVariables false
set_option linter.unusedSimpArgs false
namespace Go.Proofs.YtkedidjjhhjdbaaGreatDoor.Pr
open Go.RowKit Go.Proofs.YtkedidjjhhjdbaaGreatDoorW.PrintWords Go.Proofs.YtkedidjjhhjdbaaGreatDoorW.PrintLast Go.Proofs.YtkedidjjhhjdbaaGreatDoorW.PrintMore
structure Rc where
  kd : Int
  nm : ByteArray
  tm : Int
  tw : Int
  vv : Int
  lv : Int
  tx : ByteArray
  tr : List Int
  sid : List Int
  pa : List Int
structure Rc.ok (x : Rc) : Prop where
  tr : x.tr.length = 16
  sid : x.sid.length = 8
  pa : x.pa.length = 8
def Rc.cells (x : Rc) (v : Value) : Array Value := (([.int .i64 x.kd, .string x.nm, v, .int .i64 x.tm, .int .i64 x.tw, .int .i64 x.vv, .int .i64 x.lv, .string x.tx] : List Value) ++ (x.tr.map (Value.int .u8) ++ (x.sid.map (Value.int .u8) ++ x.pa.map (Value.int .u8)))).toArray
theorem Rc.size {x : Rc} (h : x.ok) (v : Value) : (x.cells v).size = 40 := by
 simp [Rc.cells, h.tr, h.sid, h.pa]
theorem Rc.at2 (x : Rc) (v : Value) : (x.cells v)[2]? = some v := rfl
theorem Rc.set2 (x : Rc) (v u : Value) : (x.cells v).setIfInBounds 2 u = x.cells u := by
 simp [Rc.cells, List.set]
theorem Rc.ones (x : Rc) {v : Value} (hv : v.oneCell' = true) : (x.cells v).all (·.oneCell') = true := by
 have hm : ∀ l : List Int, (l.map (Value.int .u8)).all (·.oneCell') = true := fun l => by
  rw [List.all_map, List.all_eq_true]; intro _ _; rfl
 unfold Rc.cells
 rw [List.all_toArray, List.all_append, List.all_append, List.all_append, hm, hm, hm]
 simp only [List.all_cons, List.all_nil, hv, show ∀ k i, (Value.int k i).oneCell' = true from fun _ _ => rfl, show ∀ s, (Value.string s).oneCell' = true from fun _ => rfl, Bool.and_true]
theorem list16 : ∀ l : List Int, l.length = 16 → ∃ a0 a1 a2 a3 a4 a5 a6 a7 a8 a9 a10 a11 a12 a13 a14 a15, l = [a0, a1, a2, a3, a4, a5, a6, a7, a8, a9, a10, a11, a12, a13, a14, a15]
 | [a0, a1, a2, a3, a4, a5, a6, a7, a8, a9, a10, a11, a12, a13, a14, a15], _ => ⟨_, _, _, _, _, _, _, _, _, _, _, _, _, _, _, _, rfl⟩
theorem list8 : ∀ l : List Int, l.length = 8 → ∃ a0 a1 a2 a3 a4 a5 a6 a7, l = [a0, a1, a2, a3, a4, a5, a6, a7]
 | [a0, a1, a2, a3, a4, a5, a6, a7], _ => ⟨_, _, _, _, _, _, _, _, rfl⟩
theorem eqA49 (x0 y0 x1 y1 x2 y2 x3 y3 x4 y4 x5 y5 x6 y6 x7 y7 x8 y8 x9 y9 x10 y10 x11 y11 x12 y12 x13 y13 x14 y14 x15 y15 : Int) (W : World) : (Op.equalIn 10000 49 (.agg #[.int .u8 x0, .int .u8 x1, .int .u8 x2, .int .u8 x3, .int .u8 x4, .int .u8 x5, .int .u8 x6, .int .u8 x7, .int .u8 x8, .int .u8 x9, .int .u8 x10, .int .u8 x11, .int .u8 x12, .int .u8 x13, .int .u8 x14, .int .u8 x15]) (.agg #[.int .u8 y0, .int .u8 y1, .int .u8 y2, .int .u8 y3, .int .u8 y4, .int .u8 y5, .int .u8 y6, .int .u8 y7, .int .u8 y8, .int .u8 y9, .int .u8 y10, .int .u8 y11, .int .u8 y12, .int .u8 y13, .int .u8 y14, .int .u8 y15])).run Tryz.prog W = .ok ([x0, x1, x2, x3, x4, x5, x6, x7, x8, x9, x10, x11, x12, x13, x14, x15] == [y0, y1, y2, y3, y4, y5, y6, y7, y8, y9, y10, y11, y12, y13, y14, y15]) W := eqArr (k := .u8) Tryz.underlying49 (P := Tryz.prog) (by kernel_rfl) (by kernel_rfl) Tryz.underlying5 (by kernel_rfl) 9998 [x0, x1, x2, x3, x4, x5, x6, x7, x8, x9, x10, x11, x12, x13, x14, x15] [y0, y1, y2, y3, y4, y5, y6, y7, y8, y9, y10, y11, y12, y13, y14, y15] rfl rfl W
theorem eqA50 (x0 y0 x1 y1 x2 y2 x3 y3 x4 y4 x5 y5 x6 y6 x7 y7 : Int) (W : World) : (Op.equalIn 10000 50 (.agg #[.int .u8 x0, .int .u8 x1, .int .u8 x2, .int .u8 x3, .int .u8 x4, .int .u8 x5, .int .u8 x6, .int .u8 x7]) (.agg #[.int .u8 y0, .int .u8 y1, .int .u8 y2, .int .u8 y3, .int .u8 y4, .int .u8 y5, .int .u8 y6, .int .u8 y7])).run Tryz.prog W = .ok ([x0, x1, x2, x3, x4, x5, x6, x7] == [y0, y1, y2, y3, y4, y5, y6, y7]) W := eqArr (k := .u8) Tryz.underlying50 (P := Tryz.prog) (by kernel_rfl) (by kernel_rfl) Tryz.underlying5 (by kernel_rfl) 9998 [x0, x1, x2, x3, x4, x5, x6, x7] [y0, y1, y2, y3, y4, y5, y6, y7] rfl rfl W
attribute [local go_sem high] eqA49 eqA50
set_option maxHeartbeats 8000000 in
set_option maxRecDepth 100000 in
theorem one_walk (kn : Nat) (x : Rc) (hx : x.ok) (A0 A1 : Option Addr) (c0 c1 : Nat) (l : List S62) (w : World) (hr0 : Kd.C k62 w A0 l.length l) (hc0 : l.length ≤ c0) (hr1 : Kd.C k62 w A1 l.length l) (hc1 : l.length ≤ c1) (h : belfryref04_Same.f kn l l = some true) :
  Calls Tryz.prog 27 #[.agg (x.cells (.slice A0 l.length c0)), .agg (x.cells (.slice A1 l.length c1))] w fun e w' => e = .returned (.bool true) ∧ Below w.heap.size w w' := by
 have hu52 := Tryz.underlying52; have HR0 := Aside0.mk hr0; have HR1 := Aside0.mk hr1; have HH := Aside0.mk h; clear hr0 hr1 h
 obtain ⟨k, nm, tm, tw, vv, lv, tx, tr, sid, pa⟩ := x
 obtain ⟨a0, a1, a2, a3, a4, a5, a6, a7, a8, a9, a10, a11, a12, a13, a14, a15, rfl⟩ := list16 tr hx.tr
 obtain ⟨b0, b1, b2, b3, b4, b5, b6, b7, rfl⟩ := list8 sid hx.sid
 obtain ⟨d0, d1, d2, d3, d4, d5, d6, d7, rfl⟩ := list8 pa hx.pa
 clear hx; simp only [Rc.cells, List.map_cons, List.map_nil, List.cons_append, List.nil_append]
 go_enter Tryz.func27, Tryz.ntmps27
 go_wp2_with fail
 refine (belfryref04_Same.calls kn A0 c0 l A1 c1 l true _ (Kd.C_alloc (Kd.C_alloc HR0.out _) _) hc0 (Kd.C_alloc (Kd.C_alloc HR1.out _) _) hc1 HH.out).mono ?_
 rintro e w1 ⟨rfl, ⟨nd, rfl⟩⟩
 go_wp2; go_ret
 exact ⟨rfl, pw_below_drewN (below_alloc (below_alloc (Below.refl _ _) _) _) nd⟩
end Go.Proofs.YtkedidjjhhjdbaaGreatDoor.Pr
end
section
set_option linter.unusedVariables false
set_option linter.unusedSimpArgs false
namespace Go.Proofs.YtkedidjjhhjdbaaGreatDoor.Pr
open Go.RowKit Go.Proofs.YtkedidjjhhjdbaaGreatDoorW.PrintWords Go.Proofs.YtkedidjjhhjdbaaGreatDoorW.PrintLast Go.Proofs.YtkedidjjhhjdbaaGreatDoorW.PrintMore
def strings_Split.f (a0 a1 : ByteArray) : Option (List ByteArray) := if a0.size < 4294967281 ∧ 1 ≤ a1.size then some (Lib.splitB a1 0 (Lib.countB a0 a1) a0) else none
theorem strings_Split.calls (a0 a1 : ByteArray) (r : List ByteArray) (w : World) (h : strings_Split.f a0 a1 = some r)
  (he_ : EnvW w := by repeat (first | with_reducible assumption | with_reducible exact env_of (by with_reducible assumption) (by with_reducible assumption) | with_reducible exact env_out (by with_reducible assumption) | with_reducible apply env_alloc | with_reducible apply env_drewN | with_reducible apply env_drew | with_reducible refine env_set ?_ (by with_reducible assumption) (by with_reducible assumption))) :
  Calls Tryz.prog 41 #[.string a0, .string a1] w fun e w' => ∃ v0_ : Value, e = .returned (v0_) ∧ Kd.R Kd.string 9 w' w.heap.size (fun _ => True) v0_ r ∧ Below w.heap.size w w' := by
 unfold strings_Split.f at h
 by_cases hs : a0.size < 4294967281 ∧ 1 ≤ a1.size; rotate_left
 · rw [if_neg hs] at h; cases h
 rw [if_pos hs] at h
 obtain rfl := Option.some.inj h
 obtain ⟨_, m, hm⟩ := he_
 refine (Tryz.strings_Split a0 a1 m w hs.1 hm hs.2).mono ?_
 rintro e w' ⟨rfl, rfl⟩
 have hl := Lib.splitB_all a1 hs.2 0 (Lib.countB a0 a1) a0 rfl
 have hk : Lib.countB a0 a1 + 1 ≤ 9223372036854775807 := by
  have := Lib.countB_le a1 hs.2 a0.size a0 (Nat.le_refl _)
  omega
 refine ⟨_, rfl, flatStr.R' (fun _ _ => trivial) ?_, (Below.refl _ _).alloc (Nat.le_refl _) _⟩
 rw [hl, strs_flat]
 refine ⟨by simp [hl, Kd.string, Kd.scalar], .inr ⟨w.heap.size, Lib.countB a0 a1 + 1, _, rfl, Nat.le_refl _, blk_new _ _, Nat.le_refl _, by unfold maxLen; exact hk, by simp [hl, Kd.string, Kd.scalar], ?_⟩⟩
 rw [List.take_of_length_le (by simp [hl, Kd.string, Kd.scalar])]
end Go.Proofs.YtkedidjjhhjdbaaGreatDoor.Pr
end
section
set_option linter.unusedVariables false
set_option linter.unusedSimpArgs false
namespace Go.Proofs.YtkedidjjhhjdbaaGreatDoor.Pr
open Go.RowKit Go.Proofs.YtkedidjjhhjdbaaGreatDoorW.PrintWords Go.Proofs.YtkedidjjhhjdbaaGreatDoorW.PrintLast Go.Proofs.YtkedidjjhhjdbaaGreatDoorW.PrintMore
def nextW (s : ByteArray) : ByteArray := ⟨(Lib.cut s.data.toList [32]).1.toArray⟩
def restW (s : ByteArray) : ByteArray := ⟨(Lib.cut s.data.toList [32]).2.1.toArray⟩
abbrev TxBox (g : Nat) (s : ByteArray) (W : World) : Prop := W.heap[g]? = some (.cells #[.string s] 9 (0, 0))
theorem TxBox.set {g : Nat} {s : ByteArray} {W : World} (h : TxBox g s W) (t : ByteArray) : TxBox g t (W.setCell ⟨g, 0, none⟩ (.string t)) := blk_set h 0 _
set_option maxRecDepth 100000 in
theorem next_walk (g : Nat) (s : ByteArray) (w : World) (hb : TxBox g s w) (hs : s.size < 4294967281) (he : EnvW w) :
  Calls Tryz.prog 74 #[.pointer (some ⟨g, 0, none⟩)] w fun e w' => e = .returned (.string (nextW s)) ∧ ∃ n, w' = (w.drewN n).setCell ⟨g, 0, none⟩ (.string (restW s)) := by
 have hx := blk_cell hb 0; have hf := blk_frozen hb 0
 obtain ⟨_, m, hm⟩ := he
 go_enter Tryz.func74, Tryz.ntmps74
 go_wp2_with fail
 refine (Tryz.strings_Cut s ⟨#[32]⟩ m w hs hm).mono ?_
 rintro e w1 ⟨rfl, n, rfl⟩
 go_wp2; go_ret
 exact ⟨rfl, n, rfl⟩
end Go.Proofs.YtkedidjjhhjdbaaGreatDoor.Pr
end
section
namespace Go.Proofs.YtkedidjjhhjdbaaGreatDoor.Pr
open Go.RowKit Go.Proofs.YtkedidjjhhjdbaaGreatDoorW.PrintWords Go.Proofs.YtkedidjjhhjdbaaGreatDoorW.PrintLast Go.Proofs.YtkedidjjhhjdbaaGreatDoorW.PrintMore
attribute [local go_sem] max2_int min2_int max_two min_two max_three min_three max_four min_four strGtr strLeq strGeq
set_option linter.unusedVariables false
set_option linter.unusedSimpArgs false
mutual
def policy_braces.l0 : Nat → ByteArray → Bool → Int → Option (Int)
  | 0, _, _, _ => none
  | k + 1, x0, x3, x4 => if x4 < (x0.size : Int) then (if 0 ≤ x4 then (if (bt x0 x4) = 92 then (policy_braces.j1 k x0 x3 x4 x3) else (policy_braces.j1 k x0 x3 x4 false)) else (none)) else (some (-1))
def policy_braces.j1 : Nat → ByteArray → Bool → Int → Bool → Option (Int)
  | 0, _, _, _, _ => none
  | k + 1, x0, x3, x4, x11 => if x11 = true then (policy_braces.l0 k x0 x3 (wrap64 ((wrap64 (x4 + 1)) + 1))) else (if 0 ≤ x4 then (if x4 < (x0.size : Int) then (if (bt x0 x4) = 34 then (policy_braces.l0 k x0 (!x3) (wrap64 (x4 + 1))) else (if (bt x0 x4) = 125 then (if x3 = true then (policy_braces.l0 k x0 x3 (wrap64 (x4 + 1))) else (some (wrap64 (x4 + 1)))) else (policy_braces.l0 k x0 x3 (wrap64 (x4 + 1))))) else (none)) else (none))
end
def policy_braces.f (k : Nat) (a0 : ByteArray) : Option (Int) := policy_braces.l0 k a0 false 0
set_option maxHeartbeats 8000000 in
set_option maxRecDepth 100000 in
theorem policy_braces.calls (k : Nat) (a0 : ByteArray) (r : Int) (w : World) (h : policy_braces.f k a0 = some r) :
  Calls Tryz.prog 78 #[.string a0] w fun e w' => e = .returned (.int .i64 r) ∧ Drawn0 w w' := by
 have H : (policy_braces.l0 k a0 false 0) = some r := h
 clear h; have H' := Aside0.mk H; clear H
 go_enter Tryz.func78, Tryz.ntmps78
 go_wp2
 go_loopg [3, 4] k (fun kq v3 v4 w' => ∃ (x3_1 : Bool) (x4_1 : Int), v3 = .bool x3_1 ∧ v4 = .int .i64 x4_1 ∧ Aside0 (policy_braces.l0 kq a0 x3_1 x4_1 = some r) ∧ Aside0 (kq ≤ k) ∧ Drawn0 w w')
 case atStart => exact ⟨(false), (0), sR, sR, H', ⟨Nat.le_refl _⟩, by repeat (first | exact Drawn0.refl _ | apply Drawn0.step)⟩
 case round =>
  clear H'
  obtain ⟨x3_1, x4_1, rfl, rfl, HA, HK1, ⟨m1, rfl⟩⟩ := hrel
  cases gk with
  | zero => exact absurd HA.out (by simp [policy_braces.l0])
  | succ k1 =>
   have H := HA.out; clear HA
   simp only [policy_braces.l0] at H
   by_cases c2 : x4_1 < (a0.size : Int); rotate_left
   ·
    rw [if_neg c2] at H
    have c2b0 : decide (x4_1 < (a0.size : Int)) = false := decide_eq_false c2
    clear c2
    obtain rfl := Option.some.inj H
    go_wp2; go_ret
    exact ⟨by first | rfl | (simp; done) | (simp [*]; done), by repeat (first | exact Drawn0.refl _ | apply Drawn0.step)⟩
   rw [if_pos c2] at H
   have c2b0 : decide (x4_1 < (a0.size : Int)) = true := decide_eq_true c2
   clear c2; have HC3 := Aside0.mk H; clear H
   go_upto_region 5 with (fail)
   go_cut [11] (fun v11 wc => ∃ (kq : Nat) (x11_2 : Bool), v11 = .bool x11_2 ∧ Aside0 (policy_braces.j1 kq a0 x3_1 x4_1 x11_2 = some r) ∧ Aside0 (kq ≤ k1) ∧ Drawn0 w wc)
   case first =>
    have H := HC3.out; clear HC3; by_cases c4 : 0 ≤ x4_1; rotate_left
    · rw [if_neg c4] at H; exact absurd H (by simp)
    rw [if_pos c4] at H
    have c4b0 : decide (0 ≤ x4_1) = true := decide_eq_true c4
    clear c4
    (first | rw [c4b0] | (simp only [i64_w, i32_w]; rw [c4b0]) | skip)
    by_cases c6 : (bt a0 x4_1) = 92; rotate_left
    ·
     rw [if_neg c6] at H
     have c6b0 : ((bt a0 x4_1) == 92) = false := beq_eq_false_iff_ne.mpr c6
     have c6b1 : ((bt a0 x4_1) != 92) = true := bne_iff_ne.mpr c6
     have H' := Aside0.mk H; clear H
     have p5 : 0 ≤ (x4_1 : Int) := of_decide_eq_true asm
     have q5 : x4_1 < (a0.size : Int) := of_decide_eq_true asm
     have hx5 := bt_at a0 x4_1; replace p5 := eq_true p5; replace q5 := eq_true q5; go_wp2
     go_meet
     case rel => exact ⟨_, (false), sR, H', ⟨by have := HK1.out; first | omega | exact Nat.le_refl _⟩, by repeat (first | exact Drawn0.refl _ | apply Drawn0.step)⟩
    rw [if_pos c6] at H
    have c6b0 : ((bt a0 x4_1) == 92) = true := beq_iff_eq.mpr c6
    have c6b1 : ((bt a0 x4_1) != 92) = false := bne_eq_false_iff_eq.mpr c6
    clear c6; have H' := Aside0.mk H; clear H
    have p5 : 0 ≤ (x4_1 : Int) := of_decide_eq_true asm
    have q5 : x4_1 < (a0.size : Int) := of_decide_eq_true asm
    have hx5 := bt_at a0 x4_1; replace p5 := eq_true p5; replace q5 := eq_true q5; go_wp2
    go_meet
    case rel => exact ⟨_, (x3_1), sR, H', ⟨by have := HK1.out; first | omega | exact Nat.le_refl _⟩, by repeat (first | exact Drawn0.refl _ | apply Drawn0.step)⟩
   case rest =>
    clear HC3; (try clear c2); (try clear c2b0); (try clear p2); (try clear c4); (try clear c4b0); (try clear p5); (try clear q5); (try clear hx5); (try clear c6); (try clear c6b0); (try clear c6b1); (try clear p5); (try clear q5)
    obtain ⟨kq, x11_2, rfl, HA, HJ2, ⟨mc2, rfl⟩⟩ := hcut
    cases kq with
    | zero => exact absurd HA.out (by simp [policy_braces.j1])
    | succ kj2 =>
     have H := HA.out; clear HA
     simp only [policy_braces.j1] at H
     by_cases c7 : x11_2 = true
     ·
      subst c7
      have H1 : (policy_braces.l0 kj2 a0 x3_1 (wrap64 ((wrap64 (x4_1 + 1)) + 1))) = some r := by rw [if_pos rfl] at H; exact H
      clear H; have H := H1; clear H1; have H' := Aside0.mk H; clear H; go_wp2
      go_roundg kj2
      case measure => have := HK1.out; have := HJ2.out; omega
      case rel => exact ⟨(x3_1), (wrap64 ((wrap64 (x4_1 + 1)) + 1)), sR, sR, H', ⟨by have := HK1.out; have := HJ2.out; omega⟩, by repeat (first | exact Drawn0.refl _ | apply Drawn0.step)⟩
     replace c7 := Bool.eq_false_iff.mpr c7
     subst c7
     have H1 : (if 0 ≤ x4_1 then (if x4_1 < (a0.size : Int) then (if (bt a0 x4_1) = 34 then (policy_braces.l0 kj2 a0 (!x3_1) (wrap64 (x4_1 + 1))) else (if (bt a0 x4_1) = 125 then (if x3_1 = true then (policy_braces.l0 kj2 a0 x3_1 (wrap64 (x4_1 + 1))) else (some (wrap64 (x4_1 + 1)))) else (policy_braces.l0 kj2 a0 x3_1 (wrap64 (x4_1 + 1))))) else (none)) else (none)) = some r := by rw [if_neg (show ¬ (false = true) by decide)] at H; exact H
     clear H; have H := H1; clear H1; by_cases c8 : 0 ≤ x4_1; rotate_left
     · rw [if_neg c8] at H; exact absurd H (by simp)
     rw [if_pos c8] at H
     have c8b0 : decide (0 ≤ x4_1) = true := decide_eq_true c8
     clear c8; by_cases c9 : x4_1 < (a0.size : Int); rotate_left
     · rw [if_neg c9] at H; exact absurd H (by simp)
     rw [if_pos c9] at H
     have c9b0 : decide (x4_1 < (a0.size : Int)) = true := decide_eq_true c9
     clear c9; by_cases c11 : (bt a0 x4_1) = 34
     ·
      rw [if_pos c11] at H
      have c11b0 : ((bt a0 x4_1) == 34) = true := beq_iff_eq.mpr c11
      have c11b1 : ((bt a0 x4_1) != 34) = false := bne_eq_false_iff_eq.mpr c11
      clear c11; have H' := Aside0.mk H; clear H
      have p10 : 0 ≤ (x4_1 : Int) := of_decide_eq_true asm
      have q10 : x4_1 < (a0.size : Int) := of_decide_eq_true asm
      have hx10 := bt_at a0 x4_1; replace p10 := eq_true p10; replace q10 := eq_true q10; go_wp2
      go_roundg kj2
      case measure => have := HK1.out; have := HJ2.out; omega
      case rel => exact ⟨(!x3_1), (wrap64 (x4_1 + 1)), sR, sR, H', ⟨by have := HK1.out; have := HJ2.out; omega⟩, by repeat (first | exact Drawn0.refl _ | apply Drawn0.step)⟩
     rw [if_neg c11] at H
     have c11b0 : ((bt a0 x4_1) == 34) = false := beq_eq_false_iff_ne.mpr c11
     have c11b1 : ((bt a0 x4_1) != 34) = true := bne_iff_ne.mpr c11
     by_cases c13 : (bt a0 x4_1) = 125; rotate_left
     ·
      rw [if_neg c13] at H
      have c13b0 : ((bt a0 x4_1) == 125) = false := beq_eq_false_iff_ne.mpr c13
      have c13b1 : ((bt a0 x4_1) != 125) = true := bne_iff_ne.mpr c13
      have H' := Aside0.mk H; clear H
      have p10 : 0 ≤ (x4_1 : Int) := of_decide_eq_true asm
      have q10 : x4_1 < (a0.size : Int) := of_decide_eq_true asm
      have hx10 := bt_at a0 x4_1; replace p10 := eq_true p10; replace q10 := eq_true q10
      have p12 : 0 ≤ (x4_1 : Int) := of_decide_eq_true asm
      have q12 : x4_1 < (a0.size : Int) := of_decide_eq_true asm
      have hx12 := bt_at a0 x4_1; replace p12 := eq_true p12; replace q12 := eq_true q12; go_wp2
      go_roundg kj2
      case measure => have := HK1.out; have := HJ2.out; omega
      case rel => exact ⟨(x3_1), (wrap64 (x4_1 + 1)), sR, sR, H', ⟨by have := HK1.out; have := HJ2.out; omega⟩, by repeat (first | exact Drawn0.refl _ | apply Drawn0.step)⟩
     rw [if_pos c13] at H
     have c13b0 : ((bt a0 x4_1) == 125) = true := beq_iff_eq.mpr c13
     have c13b1 : ((bt a0 x4_1) != 125) = false := bne_eq_false_iff_eq.mpr c13
     clear c13; by_cases c14 : x3_1 = true; rotate_left
     ·
      replace c14 := Bool.eq_false_iff.mpr c14
      subst c14
      have H1 : (some (wrap64 (x4_1 + 1))) = some r := by rw [if_neg (show ¬ (false = true) by decide)] at H; exact H
      clear H; have H := H1; clear H1
      obtain rfl := Option.some.inj H
      have p10 : 0 ≤ (x4_1 : Int) := of_decide_eq_true asm
      have q10 : x4_1 < (a0.size : Int) := of_decide_eq_true asm
      have hx10 := bt_at a0 x4_1; replace p10 := eq_true p10; replace q10 := eq_true q10
      have p12 : 0 ≤ (x4_1 : Int) := of_decide_eq_true asm
      have q12 : x4_1 < (a0.size : Int) := of_decide_eq_true asm
      have hx12 := bt_at a0 x4_1; replace p12 := eq_true p12; replace q12 := eq_true q12; go_wp2; go_ret
      exact ⟨by first | rfl | (simp; done) | (simp [*]; done), by repeat (first | exact Drawn0.refl _ | apply Drawn0.step)⟩
     subst c14
     have H1 : (policy_braces.l0 kj2 a0 true (wrap64 (x4_1 + 1))) = some r := by rw [if_pos rfl] at H; exact H
     clear H; have H := H1; clear H1; have H' := Aside0.mk H; clear H
     have p10 : 0 ≤ (x4_1 : Int) := of_decide_eq_true asm
     have q10 : x4_1 < (a0.size : Int) := of_decide_eq_true asm
     have hx10 := bt_at a0 x4_1; replace p10 := eq_true p10; replace q10 := eq_true q10
     have p12 : 0 ≤ (x4_1 : Int) := of_decide_eq_true asm
     have q12 : x4_1 < (a0.size : Int) := of_decide_eq_true asm
     have hx12 := bt_at a0 x4_1; replace p12 := eq_true p12; replace q12 := eq_true q12; go_wp2
     go_roundg kj2
     case measure => have := HK1.out; have := HJ2.out; omega
     case rel => exact ⟨(true), (wrap64 (x4_1 + 1)), sR, sR, H', ⟨by have := HK1.out; have := HJ2.out; omega⟩, by repeat (first | exact Drawn0.refl _ | apply Drawn0.step)⟩
def stringslite_TrimPrefix.f (a0 : ByteArray) (a1 : ByteArray) : Option (ByteArray) := (stringslite_HasPrefix.f a0 a1).bind fun t156 => (if t156 = true then (if 0 ≤ (a1.size : Int) then (if (a1.size : Int) ≤ (a0.size : Int) then (some (a0.extract ((a1.size : Int) : Int).toNat a0.size)) else (none)) else (none)) else (some a0))
set_option maxHeartbeats 8000000 in
set_option maxRecDepth 100000 in
theorem stringslite_TrimPrefix.calls (a0 : ByteArray) (a1 : ByteArray) (r : ByteArray) (w : World) (h : stringslite_TrimPrefix.f a0 a1 = some r) :
  Calls Tryz.prog 106 #[.string a0, .string a1] w fun e w' => e = .returned (.string r) ∧ Drawn0 w w' := by
 have H : ((stringslite_HasPrefix.f a0 a1).bind fun t156 => (if t156 = true then (if 0 ≤ (a1.size : Int) then (if (a1.size : Int) ≤ (a0.size : Int) then (some (a0.extract ((a1.size : Int) : Int).toNat a0.size)) else (none)) else (none)) else (some a0))) = some r := h
 clear h
 replace H := Option.bind_eq_some_iff.mp H
 obtain ⟨t156, A30, H⟩ := H
 replace H : (if t156 = true then (if 0 ≤ (a1.size : Int) then (if (a1.size : Int) ≤ (a0.size : Int) then (some (a0.extract ((a1.size : Int) : Int).toNat a0.size)) else (none)) else (none)) else (some a0)) = some r := H
 have A3 := Aside0.mk A30; clear A30; by_cases c4 : t156 = true; rotate_left
 ·
  replace c4 := Bool.eq_false_iff.mpr c4
  subst c4
  have H1 : (some a0) = some r := by rw [if_neg (show ¬ (false = true) by decide)] at H; exact H
  clear H; have H := H1; clear H1
  obtain rfl := Option.some.inj H
  go_enter Tryz.func106, Tryz.ntmps106
  go_wp2_with (first | ((with_reducible refine gate_callee (f := 138) rfl ?_); refine goesL_ (some 7) rfl rfl Tryz.func138 (by kernel_rfl) rfl #[.string a0, .string a1] rfl lR ?_; (with_reducible refine (stringslite_HasPrefix.calls a0 a1 false _ A3.out).mono ?_); rintro e w' ⟨rfl, ⟨nd, rfl⟩⟩; refine ⟨_, rfl, ?_⟩))
  go_ret
  exact ⟨by first | rfl | (simp; done) | (simp [*]; done), by repeat (first | exact Drawn0.refl _ | apply Drawn0.step)⟩
 subst c4
 have H1 : (if 0 ≤ (a1.size : Int) then (if (a1.size : Int) ≤ (a0.size : Int) then (some (a0.extract ((a1.size : Int) : Int).toNat a0.size)) else (none)) else (none)) = some r := by rw [if_pos rfl] at H; exact H
 clear H; have H := H1; clear H1; by_cases c5 : 0 ≤ (a1.size : Int); rotate_left
 · rw [if_neg c5] at H; exact absurd H (by simp)
 rw [if_pos c5] at H; have c5b0 := eq_true c5
 have c5b1 : decide (0 ≤ (a1.size : Int)) = true := decide_eq_true c5
 clear c5; by_cases c6 : (a1.size : Int) ≤ (a0.size : Int); rotate_left
 · rw [if_neg c6] at H; exact absurd H (by simp)
 rw [if_pos c6] at H; have c6b0 := eq_true c6
 have c6b1 : decide ((a1.size : Int) ≤ (a0.size : Int)) = true := decide_eq_true c6
 clear c6
 obtain rfl := Option.some.inj H
 go_enter Tryz.func106, Tryz.ntmps106
 go_wp2_with (first | ((with_reducible refine gate_callee (f := 138) rfl ?_); refine goesL_ (some 7) rfl rfl Tryz.func138 (by kernel_rfl) rfl #[.string a0, .string a1] rfl lR ?_; (with_reducible refine (stringslite_HasPrefix.calls a0 a1 true _ A3.out).mono ?_); rintro e w' ⟨rfl, ⟨nd, rfl⟩⟩; refine ⟨_, rfl, ?_⟩))
 go_ret
 exact ⟨by first | rfl | (simp; done) | (simp [*]; done), by repeat (first | exact Drawn0.refl _ | apply Drawn0.step)⟩
def strings_TrimPrefix.f (a0 : ByteArray) (a1 : ByteArray) : Option (ByteArray) := (stringslite_TrimPrefix.f a0 a1).bind fun t157 => (some t157)
set_option maxHeartbeats 8000000 in
set_option maxRecDepth 100000 in
theorem strings_TrimPrefix.calls (a0 : ByteArray) (a1 : ByteArray) (r : ByteArray) (w : World) (h : strings_TrimPrefix.f a0 a1 = some r) :
  Calls Tryz.prog 79 #[.string a0, .string a1] w fun e w' => e = .returned (.string r) ∧ Drawn0 w w' := by
 have H : ((stringslite_TrimPrefix.f a0 a1).bind fun t157 => (some t157)) = some r := h
 clear h
 replace H := Option.bind_eq_some_iff.mp H
 obtain ⟨t157, A30, H⟩ := H
 replace H : (some t157) = some r := H
 have A3 := Aside0.mk A30; clear A30
 obtain rfl := Option.some.inj H
 go_enter Tryz.func79, Tryz.ntmps79
 go_wp2_with (first | ((with_reducible refine gate_callee (f := 106) rfl ?_); refine goesL_ (some 7) rfl rfl Tryz.func106 (by kernel_rfl) rfl #[.string a0, .string a1] rfl lR ?_; (with_reducible refine (stringslite_TrimPrefix.calls a0 a1 t157 _ A3.out).mono ?_); rintro e w' ⟨rfl, ⟨nd, rfl⟩⟩; refine ⟨_, rfl, ?_⟩))
 go_ret
 exact ⟨by first | rfl | (simp; done) | (simp [*]; done), by repeat (first | exact Drawn0.refl _ | apply Drawn0.step)⟩
def policy_word.f (a0 : ByteArray) : Option (Bool) := if a0.toList = ([] : List UInt8) then (some false) else (if 0 < (a0.size : Int) then (if (bt a0 0) ≥ 48 then (if (bt a0 0) ≤ 57 then (some false) else (if (bt a0 0) = 46 then (some false) else ((strings_Trim.f a0 (⟨#[97, 98, 99, 100, 101, 102, 103, 104, 105, 106, 107, 108, 109, 110, 111, 112, 113, 114, 115, 116, 117, 118, 119, 120, 121, 122, 65, 66, 67, 68, 69, 70, 71, 72, 73, 74, 75, 76, 77, 78, 79, 80, 81, 82, 83, 84, 85, 86, 87, 88, 89, 90, 48, 49, 50, 51, 52, 53, 54, 55, 56, 57, 95, 46]⟩ : ByteArray)).bind fun t158 => (some (t158.toList == ([] : List UInt8)))))) else (if (bt a0 0) = 46 then (some false) else ((strings_Trim.f a0 (⟨#[97, 98, 99, 100, 101, 102, 103, 104, 105, 106, 107, 108, 109, 110, 111, 112, 113, 114, 115, 116, 117, 118, 119, 120, 121, 122, 65, 66, 67, 68, 69, 70, 71, 72, 73, 74, 75, 76, 77, 78, 79, 80, 81, 82, 83, 84, 85, 86, 87, 88, 89, 90, 48, 49, 50, 51, 52, 53, 54, 55, 56, 57, 95, 46]⟩ : ByteArray)).bind fun t159 => (some (t159.toList == ([] : List UInt8)))))) else (none))
set_option maxHeartbeats 8000000 in
set_option maxRecDepth 100000 in
theorem policy_word.calls (a0 : ByteArray) (r : Bool) (w : World) (h : policy_word.f a0 = some r) :
  Calls Tryz.prog 81 #[.string a0] w fun e w' => e = .returned (.bool r) ∧ Below w.heap.size w w' := by
 have HB := Aside0.mk (Below.refl w.heap.size w)
 have H : (if a0.toList = ([] : List UInt8) then (some false) else (if 0 < (a0.size : Int) then (if (bt a0 0) ≥ 48 then (if (bt a0 0) ≤ 57 then (some false) else (if (bt a0 0) = 46 then (some false) else ((strings_Trim.f a0 (⟨#[97, 98, 99, 100, 101, 102, 103, 104, 105, 106, 107, 108, 109, 110, 111, 112, 113, 114, 115, 116, 117, 118, 119, 120, 121, 122, 65, 66, 67, 68, 69, 70, 71, 72, 73, 74, 75, 76, 77, 78, 79, 80, 81, 82, 83, 84, 85, 86, 87, 88, 89, 90, 48, 49, 50, 51, 52, 53, 54, 55, 56, 57, 95, 46]⟩ : ByteArray)).bind fun t158 => (some (t158.toList == ([] : List UInt8)))))) else (if (bt a0 0) = 46 then (some false) else ((strings_Trim.f a0 (⟨#[97, 98, 99, 100, 101, 102, 103, 104, 105, 106, 107, 108, 109, 110, 111, 112, 113, 114, 115, 116, 117, 118, 119, 120, 121, 122, 65, 66, 67, 68, 69, 70, 71, 72, 73, 74, 75, 76, 77, 78, 79, 80, 81, 82, 83, 84, 85, 86, 87, 88, 89, 90, 48, 49, 50, 51, 52, 53, 54, 55, 56, 57, 95, 46]⟩ : ByteArray)).bind fun t159 => (some (t159.toList == ([] : List UInt8)))))) else (none))) = some r := h
 clear h; by_cases c2 : a0.toList = ([] : List UInt8)
 ·
  rw [if_pos c2] at H
  have c2b0 : (a0.toList == ([] : List UInt8)) = true := beq_iff_eq.mpr c2
  have c2b1 : (a0.toList != ([] : List UInt8)) = false := bne_eq_false_iff_eq.mpr c2
  clear c2
  obtain rfl := Option.some.inj H
  go_enter Tryz.func81, Tryz.ntmps81
  go_wp2; go_ret
  exact ⟨eR, bO⟩
 rw [if_neg c2] at H
 have c2b0 : (a0.toList == ([] : List UInt8)) = false := beq_eq_false_iff_ne.mpr c2
 have c2b1 : (a0.toList != ([] : List UInt8)) = true := bne_iff_ne.mpr c2
 by_cases c3 : 0 < (a0.size : Int); rotate_left
 · rw [if_neg c3] at H; exact absurd H (by simp)
 rw [if_pos c3] at H
 have c3b0 : decide (0 < (a0.size : Int)) = true := decide_eq_true c3
 have c3b1 : decide (0 < a0.size) = true := decide_eq_true (by omega)
 clear c3; by_cases c5 : (bt a0 0) ≥ 48; rotate_left
 ·
  rw [if_neg c5] at H
  have c5b0 : decide (48 ≤ (bt a0 0)) = false := decide_eq_false c5
  clear c5; by_cases c13 : (bt a0 0) = 46
  ·
   rw [if_pos c13] at H
   have c13b0 : ((bt a0 0) == 46) = true := beq_iff_eq.mpr c13
   have c13b1 : ((bt a0 0) != 46) = false := bne_eq_false_iff_eq.mpr c13
   clear c13
   obtain rfl := Option.some.inj H
   have p4 : 0 ≤ (0 : Int) := (by omega)
   have q4 : 0 < a0.size := (by have : (0 : Int) < (a0.size : Int) := of_decide_eq_true asm; omega)
   have hx4 : ∀ h : 0 < a0.size, ((a0[0]'h).toNat : Int) = bt a0 0 := bt_at a0 0
   clear p4
   have qi4 : (0 < (a0.size : Int)) = True := eq_true (of_decide_eq_true asm)
   replace q4 := eq_true q4
   have p12 : 0 ≤ (0 : Int) := (by omega)
   have q12 : 0 < a0.size := (by have : (0 : Int) < (a0.size : Int) := of_decide_eq_true asm; omega)
   have hx12 : ∀ h : 0 < a0.size, ((a0[0]'h).toNat : Int) = bt a0 0 := bt_at a0 0
   clear p12
   have qi12 : (0 < (a0.size : Int)) = True := eq_true (of_decide_eq_true asm)
   replace q12 := eq_true q12
   go_enter Tryz.func81, Tryz.ntmps81
   go_wp2; go_ret
   exact ⟨eR, bO⟩
  rw [if_neg c13] at H
  have c13b0 : ((bt a0 0) == 46) = false := beq_eq_false_iff_ne.mpr c13
  have c13b1 : ((bt a0 0) != 46) = true := bne_iff_ne.mpr c13
  replace H := Option.bind_eq_some_iff.mp H
  obtain ⟨t159, A140, H⟩ := H
  replace H : (some (t159.toList == ([] : List UInt8))) = some r := H
  have A14 := Aside0.mk A140; clear A140
  obtain rfl := Option.some.inj H
  have p4 : 0 ≤ (0 : Int) := (by omega)
  have q4 : 0 < a0.size := (by have : (0 : Int) < (a0.size : Int) := of_decide_eq_true asm; omega)
  have hx4 : ∀ h : 0 < a0.size, ((a0[0]'h).toNat : Int) = bt a0 0 := bt_at a0 0
  clear p4
  have qi4 : (0 < (a0.size : Int)) = True := eq_true (of_decide_eq_true asm)
  replace q4 := eq_true q4
  have p12 : 0 ≤ (0 : Int) := (by omega)
  have q12 : 0 < a0.size := (by have : (0 : Int) < (a0.size : Int) := of_decide_eq_true asm; omega)
  have hx12 : ∀ h : 0 < a0.size, ((a0[0]'h).toNat : Int) = bt a0 0 := bt_at a0 0
  clear p12
  have qi12 : (0 < (a0.size : Int)) = True := eq_true (of_decide_eq_true asm)
  replace q12 := eq_true q12
  go_enter Tryz.func81, Tryz.ntmps81
  go_wp2_with (first | ((with_reducible refine gate_callee (f := 83) rfl ?_); refine goesL_ (some 21) rfl rfl Tryz.func83 (by kernel_rfl) rfl #[.string a0, .string (⟨#[97, 98, 99, 100, 101, 102, 103, 104, 105, 106, 107, 108, 109, 110, 111, 112, 113, 114, 115, 116, 117, 118, 119, 120, 121, 122, 65, 66, 67, 68, 69, 70, 71, 72, 73, 74, 75, 76, 77, 78, 79, 80, 81, 82, 83, 84, 85, 86, 87, 88, 89, 90, 48, 49, 50, 51, 52, 53, 54, 55, 56, 57, 95, 46]⟩ : ByteArray)] rfl lR ?_; (with_reducible refine (strings_Trim.calls a0 (⟨#[97, 98, 99, 100, 101, 102, 103, 104, 105, 106, 107, 108, 109, 110, 111, 112, 113, 114, 115, 116, 117, 118, 119, 120, 121, 122, 65, 66, 67, 68, 69, 70, 71, 72, 73, 74, 75, 76, 77, 78, 79, 80, 81, 82, 83, 84, 85, 86, 87, 88, 89, 90, 48, 49, 50, 51, 52, 53, 54, 55, 56, 57, 95, 46]⟩ : ByteArray) t159 _ A14.out).mono ?_); rintro e w15 ⟨rfl, hb⟩; refine ⟨_, rfl, ?_⟩; have n0_ := Aside0.mk (below_step bO hb); clear HB; have HB := n0_; clear n0_; (try clear hb); (try clear hb2); (try clear hk); (try clear hi)))
  go_ret
  exact ⟨eR, bO⟩
 rw [if_pos c5] at H
 have c5b0 : decide (48 ≤ (bt a0 0)) = true := decide_eq_true c5
 clear c5; by_cases c7 : (bt a0 0) ≤ 57
 ·
  rw [if_pos c7] at H
  have c7b0 : decide ((bt a0 0) ≤ 57) = true := decide_eq_true c7
  clear c7
  obtain rfl := Option.some.inj H
  have p4 : 0 ≤ (0 : Int) := (by omega)
  have q4 : 0 < a0.size := (by have : (0 : Int) < (a0.size : Int) := of_decide_eq_true asm; omega)
  have hx4 : ∀ h : 0 < a0.size, ((a0[0]'h).toNat : Int) = bt a0 0 := bt_at a0 0
  clear p4
  have qi4 : (0 < (a0.size : Int)) = True := eq_true (of_decide_eq_true asm)
  replace q4 := eq_true q4
  have p6 : 0 ≤ (0 : Int) := (by omega)
  have q6 : 0 < a0.size := (by have : (0 : Int) < (a0.size : Int) := of_decide_eq_true asm; omega)
  have hx6 : ∀ h : 0 < a0.size, ((a0[0]'h).toNat : Int) = bt a0 0 := bt_at a0 0
  clear p6
  have qi6 : (0 < (a0.size : Int)) = True := eq_true (of_decide_eq_true asm)
  replace q6 := eq_true q6
  go_enter Tryz.func81, Tryz.ntmps81
  go_wp2; go_ret
  exact ⟨eR, bO⟩
 rw [if_neg c7] at H
 have c7b0 : decide ((bt a0 0) ≤ 57) = false := decide_eq_false c7
 clear c7; by_cases c9 : (bt a0 0) = 46
 ·
  rw [if_pos c9] at H
  have c9b0 : ((bt a0 0) == 46) = true := beq_iff_eq.mpr c9
  have c9b1 : ((bt a0 0) != 46) = false := bne_eq_false_iff_eq.mpr c9
  clear c9
  obtain rfl := Option.some.inj H
  have p4 : 0 ≤ (0 : Int) := (by omega)
  have q4 : 0 < a0.size := (by have : (0 : Int) < (a0.size : Int) := of_decide_eq_true asm; omega)
  have hx4 : ∀ h : 0 < a0.size, ((a0[0]'h).toNat : Int) = bt a0 0 := bt_at a0 0
  clear p4
  have qi4 : (0 < (a0.size : Int)) = True := eq_true (of_decide_eq_true asm)
  replace q4 := eq_true q4
  have p6 : 0 ≤ (0 : Int) := (by omega)
  have q6 : 0 < a0.size := (by have : (0 : Int) < (a0.size : Int) := of_decide_eq_true asm; omega)
  have hx6 : ∀ h : 0 < a0.size, ((a0[0]'h).toNat : Int) = bt a0 0 := bt_at a0 0
  clear p6
  have qi6 : (0 < (a0.size : Int)) = True := eq_true (of_decide_eq_true asm)
  replace q6 := eq_true q6
  have p8 : 0 ≤ (0 : Int) := (by omega)
  have q8 : 0 < a0.size := (by have : (0 : Int) < (a0.size : Int) := of_decide_eq_true asm; omega)
  have hx8 : ∀ h : 0 < a0.size, ((a0[0]'h).toNat : Int) = bt a0 0 := bt_at a0 0
  clear p8
  have qi8 : (0 < (a0.size : Int)) = True := eq_true (of_decide_eq_true asm)
  replace q8 := eq_true q8
  go_enter Tryz.func81, Tryz.ntmps81
  go_wp2; go_ret
  exact ⟨eR, bO⟩
 rw [if_neg c9] at H
 have c9b0 : ((bt a0 0) == 46) = false := beq_eq_false_iff_ne.mpr c9
 have c9b1 : ((bt a0 0) != 46) = true := bne_iff_ne.mpr c9
 replace H := Option.bind_eq_some_iff.mp H
 obtain ⟨t158, A100, H⟩ := H
 replace H : (some (t158.toList == ([] : List UInt8))) = some r := H
 have A10 := Aside0.mk A100; clear A100
 obtain rfl := Option.some.inj H
 have p4 : 0 ≤ (0 : Int) := (by omega)
 have q4 : 0 < a0.size := (by have : (0 : Int) < (a0.size : Int) := of_decide_eq_true asm; omega)
 have hx4 : ∀ h : 0 < a0.size, ((a0[0]'h).toNat : Int) = bt a0 0 := bt_at a0 0
 clear p4
 have qi4 : (0 < (a0.size : Int)) = True := eq_true (of_decide_eq_true asm)
 replace q4 := eq_true q4
 have p6 : 0 ≤ (0 : Int) := (by omega)
 have q6 : 0 < a0.size := (by have : (0 : Int) < (a0.size : Int) := of_decide_eq_true asm; omega)
 have hx6 : ∀ h : 0 < a0.size, ((a0[0]'h).toNat : Int) = bt a0 0 := bt_at a0 0
 clear p6
 have qi6 : (0 < (a0.size : Int)) = True := eq_true (of_decide_eq_true asm)
 replace q6 := eq_true q6
 have p8 : 0 ≤ (0 : Int) := (by omega)
 have q8 : 0 < a0.size := (by have : (0 : Int) < (a0.size : Int) := of_decide_eq_true asm; omega)
 have hx8 : ∀ h : 0 < a0.size, ((a0[0]'h).toNat : Int) = bt a0 0 := bt_at a0 0
 clear p8
 have qi8 : (0 < (a0.size : Int)) = True := eq_true (of_decide_eq_true asm)
 replace q8 := eq_true q8
 go_enter Tryz.func81, Tryz.ntmps81
 go_wp2_with (first | ((with_reducible refine gate_callee (f := 83) rfl ?_); refine goesL_ (some 21) rfl rfl Tryz.func83 (by kernel_rfl) rfl #[.string a0, .string (⟨#[97, 98, 99, 100, 101, 102, 103, 104, 105, 106, 107, 108, 109, 110, 111, 112, 113, 114, 115, 116, 117, 118, 119, 120, 121, 122, 65, 66, 67, 68, 69, 70, 71, 72, 73, 74, 75, 76, 77, 78, 79, 80, 81, 82, 83, 84, 85, 86, 87, 88, 89, 90, 48, 49, 50, 51, 52, 53, 54, 55, 56, 57, 95, 46]⟩ : ByteArray)] rfl lR ?_; (with_reducible refine (strings_Trim.calls a0 (⟨#[97, 98, 99, 100, 101, 102, 103, 104, 105, 106, 107, 108, 109, 110, 111, 112, 113, 114, 115, 116, 117, 118, 119, 120, 121, 122, 65, 66, 67, 68, 69, 70, 71, 72, 73, 74, 75, 76, 77, 78, 79, 80, 81, 82, 83, 84, 85, 86, 87, 88, 89, 90, 48, 49, 50, 51, 52, 53, 54, 55, 56, 57, 95, 46]⟩ : ByteArray) t158 _ A10.out).mono ?_); rintro e w11 ⟨rfl, hb⟩; refine ⟨_, rfl, ?_⟩; have n0_ := Aside0.mk (below_step bO hb); clear HB; have HB := n0_; clear n0_; (try clear hb); (try clear hb2); (try clear hk); (try clear hi)))
 go_ret
 exact ⟨eR, bO⟩
end Go.Proofs.YtkedidjjhhjdbaaGreatDoor.Pr
end
section
set_option linter.unusedVariables false
set_option linter.unusedSimpArgs false
namespace Go.Proofs.YtkedidjjhhjdbaaGreatDoor.Pr
open Go.RowKit Go.Proofs.YtkedidjjhhjdbaaGreatDoorW.PrintWords Go.Proofs.YtkedidjjhhjdbaaGreatDoorW.PrintLast Go.Proofs.YtkedidjjhhjdbaaGreatDoorW.PrintMore
def strings_IndexAny.f (a0 a1 : ByteArray) : Option Int := if a0.size < 4294967281 ∧ a1.size < 4294967281 ∧ a0.data.toList.all (fun b => decide (b.toNat < 128)) = true ∧ a1.data.toList.all (fun b => decide (b.toNat < 128)) = true then some (Lib.indexAny a0.data.toList a1.data.toList) else none
theorem strings_IndexAny.calls (a0 a1 : ByteArray) (r : Int) (w : World) (h : strings_IndexAny.f a0 a1 = some r) :
  Calls Tryz.prog 107 #[.string a0, .string a1] w fun e w' => e = .returned (.int .i64 r) ∧ Below w.heap.size w w' := by
 unfold strings_IndexAny.f at h
 by_cases hs : a0.size < 4294967281 ∧ a1.size < 4294967281 ∧ a0.data.toList.all (fun b => decide (b.toNat < 128)) = true ∧ a1.data.toList.all (fun b => decide (b.toNat < 128)) = true
 rotate_left
 · rw [if_neg hs] at h; cases h
 rw [if_pos hs] at h
 obtain rfl := Option.some.inj h
 exact Tryz.strings_IndexAny_laid a0 a1 w hs.1 hs.2.1 (ascii_of_all hs.2.2.1) (ascii_of_all hs.2.2.2)
end Go.Proofs.YtkedidjjhhjdbaaGreatDoor.Pr
end
section
namespace Go.Proofs.YtkedidjjhhjdbaaGreatDoor.Pr
open Go.RowKit Go.Proofs.YtkedidjjhhjdbaaGreatDoorW.PrintWords Go.Proofs.YtkedidjjhhjdbaaGreatDoorW.PrintLast Go.Proofs.YtkedidjjhhjdbaaGreatDoorW.PrintMore
attribute [local go_sem] max2_int min2_int max_two min_two max_three min_three max_four min_four strGtr strLeq strGeq
set_option linter.unusedVariables false
set_option linter.unusedSimpArgs false
def IsS161 (w0 W : World) (g : Nat) (f0 : ByteArray) (f1 : Int) (f2 : Bool) : Prop := W.heap[g]? = some (.cells #[.string f0, .int .i64 f1, .bool f2] 161 (0, 0)) ∧ w0.heap.size ≤ g
theorem IsS161.grown {w0 W : World} {g : Nat} {f0 : ByteArray} {f1 : Int} {f2 : Bool} {W1 : World} {row : Option Nat} (h : IsS161 w0 W g f0 f1 f2) (hw : W.grownBy W1 row) (hne : some g ≠ row) : IsS161 w0 W1 g f0 f1 f2 := by
 obtain ⟨hb, hg⟩ := h
 exact ⟨blk_grown hb hw hne, hg⟩
theorem IsS161.kept {w0 W : World} {g : Nat} {f0 : ByteArray} {f1 : Int} {f2 : Bool} {W1 : World} {S : Nat → Prop} (h : IsS161 w0 W g f0 f1 f2) (hk : Kept W W1 S) (hne : ¬ S g) : IsS161 w0 W1 g f0 f1 f2 := by
 obtain ⟨hb, hg⟩ := h
 exact ⟨blk_kept hb hk hne, hg⟩
theorem IsS161.below {w0 W : World} {g : Nat} {f0 : ByteArray} {f1 : Int} {f2 : Bool} {W1 : World} (h : IsS161 w0 W g f0 f1 f2) (hw : Below W.heap.size W W1) : IsS161 w0 W1 g f0 f1 f2 := h.grown (grown_of_below hw none) (by simp)
theorem IsS161.alloc {w0 W : World} {g : Nat} {f0 : ByteArray} {f1 : Int} {f2 : Bool} (h : IsS161 w0 W g f0 f1 f2) (o : Obj) : IsS161 w0 (W.alloc o) g f0 f1 f2 := h.below (below_alloc (Below.refl _ _) o)
theorem IsS161.drewN {w0 W : World} {g : Nat} {f0 : ByteArray} {f1 : Int} {f2 : Bool} (h : IsS161 w0 W g f0 f1 f2) (m : Nat) : IsS161 w0 (W.drewN m) g f0 f1 f2 := h
theorem IsS161.drew {w0 W : World} {g : Nat} {f0 : ByteArray} {f1 : Int} {f2 : Bool} (h : IsS161 w0 W g f0 f1 f2) : IsS161 w0 W.drew g f0 f1 f2 := h
theorem IsS161.at_ {w0 W : World} {g : Nat} {f0 : ByteArray} {f1 : Int} {f2 : Bool} {w' : World} {m : Nat} (hq : W.drewN m = w') (h : IsS161 w0 W g f0 f1 f2) : IsS161 w0 w' g f0 f1 f2 := by subst hq; exact IsS161.drewN h m
theorem IsS161.apart {w0 W : World} {g : Nat} {f0 : ByteArray} {f1 : Int} {f2 : Bool} {α : Type} {d : Kd α} {e : Nat} {base : Nat} {ok : Nat → Prop} {v : Value} {xs : List α} (h : IsS161 w0 W g f0 f1 f2) (ho : d.R e W base ok v xs) (ht : ∀ q, q ∈ e :: d.E → q ≠ 161) : d.R e W base (fun k => ok k ∧ k ≠ g) v xs := by
 obtain ⟨hb, hg⟩ := h
 exact Kd.R_types ho hb ht
theorem IsS161.lt {w0 W : World} {g : Nat} {f0 : ByteArray} {f1 : Int} {f2 : Bool} (h : IsS161 w0 W g f0 f1 f2) : g < W.heap.size := by
 obtain ⟨hb, hg⟩ := h
 exact blk_lt hb
theorem IsS161.ge {w0 W : World} {g : Nat} {f0 : ByteArray} {f1 : Int} {f2 : Bool} (h : IsS161 w0 W g f0 f1 f2) : w0.heap.size ≤ g := by
 obtain ⟨hb, hg⟩ := h
 exact hg
theorem IsS161.far {w0 W : World} {g : Nat} {f0 : ByteArray} {f1 : Int} {f2 : Bool} {p : Addr} (h : IsS161 w0 W g f0 f1 f2) (hne : g ≠ p.block) (u : Value) : IsS161 w0 (W.setCell p u) g f0 f1 f2 := by
 obtain ⟨hb, hg⟩ := h
 exact ⟨blk_far hb hne u, hg⟩
theorem cellS161_0 {W : World} {g : Nat} {f0 : ByteArray} {f1 : Int} {f2 : Bool} (h : W.heap[g]? = some (.cells #[.string f0, .int .i64 f1, .bool f2] 161 (0, 0))) : W.cell? ⟨g, 0, none⟩ = some (.string f0) := (blk_cell h 0).trans rfl
theorem IsS161.set_0 {w0 W : World} {g : Nat} {f0 : ByteArray} {f1 : Int} {f2 : Bool} (h : IsS161 w0 W g f0 f1 f2) (x : ByteArray) : IsS161 w0 (W.setCell ⟨g, 0, none⟩ (.string x)) g x f1 f2 := by
 obtain ⟨hb, hg⟩ := h
 exact ⟨by simpa using blk_set hb 0 (.string x), hg⟩
theorem cellS161_1 {W : World} {g : Nat} {f0 : ByteArray} {f1 : Int} {f2 : Bool} (h : W.heap[g]? = some (.cells #[.string f0, .int .i64 f1, .bool f2] 161 (0, 0))) : W.cell? ⟨g, 1, none⟩ = some (.int .i64 f1) := (blk_cell h 1).trans rfl
theorem IsS161.set_1 {w0 W : World} {g : Nat} {f0 : ByteArray} {f1 : Int} {f2 : Bool} (h : IsS161 w0 W g f0 f1 f2) (x : Int) : IsS161 w0 (W.setCell ⟨g, 1, none⟩ (.int .i64 x)) g f0 x f2 := by
 obtain ⟨hb, hg⟩ := h
 exact ⟨by simpa using blk_set hb 1 (.int .i64 x), hg⟩
theorem cellS161_2 {W : World} {g : Nat} {f0 : ByteArray} {f1 : Int} {f2 : Bool} (h : W.heap[g]? = some (.cells #[.string f0, .int .i64 f1, .bool f2] 161 (0, 0))) : W.cell? ⟨g, 2, none⟩ = some (.bool f2) := (blk_cell h 2).trans rfl
theorem IsS161.set_2 {w0 W : World} {g : Nat} {f0 : ByteArray} {f1 : Int} {f2 : Bool} (h : IsS161 w0 W g f0 f1 f2) (x : Bool) : IsS161 w0 (W.setCell ⟨g, 2, none⟩ (.bool x)) g f0 f1 x := by
 obtain ⟨hb, hg⟩ := h
 exact ⟨by simpa using blk_set hb 2 (.bool x), hg⟩
theorem IsS161.new (w0 W : World) (f0 : ByteArray) (f1 : Int) (f2 : Bool) (hB : Below w0.heap.size w0 W) : IsS161 w0 (W.alloc (.cells #[.string f0, .int .i64 f1, .bool f2] 161)) W.heap.size f0 f1 f2 := ⟨by simpa using heap_alloc_new W _, hB.size⟩
def attr_reader_take.f (s0_0 : ByteArray) (s0_1 : Int) (s0_2 : Bool) (a1 : ByteArray) : Option (Bool × ByteArray × Int × Bool) := if s0_2 = true then (some (false, s0_0, s0_1, s0_2)) else (if 0 ≤ s0_1 then (if s0_1 ≤ (s0_0.size : Int) then ((strings_HasPrefix.f (s0_0.extract (s0_1 : Int).toNat s0_0.size) a1).bind fun t160 => (if t160 = true then (some (true, s0_0, wrap64 (s0_1 + (a1.size : Int)), s0_2)) else (some (false, s0_0, s0_1, s0_2)))) else (none)) else (none))
set_option maxHeartbeats 8000000 in
set_option maxRecDepth 100000 in
theorem attr_reader_take.calls (g : Nat) (s0_0 : ByteArray) (s0_1 : Int) (s0_2 : Bool) (a1 : ByteArray) (r1 : Bool) (r2 : ByteArray) (r3 : Int) (r4 : Bool) (w0 w : World) (hI : IsS161 w0 w g s0_0 s0_1 s0_2) (hB : Below w0.heap.size w0 w) (h : attr_reader_take.f s0_0 s0_1 s0_2 a1 = some (r1, r2, r3, r4)) :
  Calls Tryz.prog 172 #[.pointer (some ⟨g, 0, none⟩), .string a1] w fun e w' => e = .returned (.bool r1) ∧ IsS161 w0 w' g r2 r3 r4 ∧ Below w0.heap.size w0 w' ∧ KeepBut w w' g none := by
 have HI0 := Aside0.mk hI; have HK := Aside0.mk (KeepBut.refl w g none); have HL := Aside0.mk hB.size; clear hI; have HW0 := Aside0.mk hB.size; have HB := Aside0.mk hB; clear hB
 have H : (if s0_2 = true then (some (false, s0_0, s0_1, s0_2)) else (if 0 ≤ s0_1 then (if s0_1 ≤ (s0_0.size : Int) then ((strings_HasPrefix.f (s0_0.extract (s0_1 : Int).toNat s0_0.size) a1).bind fun t160 => (if t160 = true then (some (true, s0_0, wrap64 (s0_1 + (a1.size : Int)), s0_2)) else (some (false, s0_0, s0_1, s0_2)))) else (none)) else (none))) = some (r1, r2, r3, r4) := h
 clear h; by_cases c3 : s0_2 = true
 ·
  subst c3
  have H1 : (some (false, s0_0, s0_1, true)) = some (r1, r2, r3, r4) := by rw [if_pos rfl] at H; exact H
  clear H; have H := H1; clear H1
  simp only [Option.some.injEq, Prod.mk.injEq] at H
  obtain ⟨rfl, rfl, rfl, rfl⟩ := H
  obtain ⟨HGz4, hgz4⟩ := HI0.out
  have hcz4_0 := cellS161_0 HGz4; have hcz4_1 := cellS161_1 HGz4; have hcz4_2 := cellS161_2 HGz4; have hfz4_0 := blk_frozen HGz4 0; have hfz4_1 := blk_frozen HGz4 1; have hfz4_2 := blk_frozen HGz4 2; clear HGz4 hgz4
  go_enter Tryz.func172, Tryz.ntmps172
  go_wp2
  repeat (go_quiet (fail); try go_wp2)
  go_ret
  exact ⟨eR, by repeat (first | (with_reducible first | exact HI0.out | apply IsS161.alloc | apply IsS161.drewN | apply IsS161.drew | apply IsS161.set_0 | apply IsS161.set_1 | apply IsS161.set_2) | exact HI0.out), by repeat (first | (with_reducible first | exact HB.out | apply below_alloc | apply pw_below_drewN | apply below_drew1 | refine below_set ?_ (IsS161.ge HI0.out)) | exact HB.out), by repeat (first | (with_reducible first | exact HK.out | apply KeepBut.set_ | apply keep_drewN | apply keep_drew | apply keep_alloc) | exact HK.out)⟩
 replace c3 := Bool.eq_false_iff.mpr c3
 subst c3
 have H1 : (if 0 ≤ s0_1 then (if s0_1 ≤ (s0_0.size : Int) then ((strings_HasPrefix.f (s0_0.extract (s0_1 : Int).toNat s0_0.size) a1).bind fun t160 => (if t160 = true then (some (true, s0_0, wrap64 (s0_1 + (a1.size : Int)), false)) else (some (false, s0_0, s0_1, false)))) else (none)) else (none)) = some (r1, r2, r3, r4) := by rw [if_neg (show ¬ (false = true) by decide)] at H; exact H
 clear H; have H := H1; clear H1; by_cases c5 : 0 ≤ s0_1; rotate_left
 · rw [if_neg c5] at H; exact absurd H (by simp)
 rw [if_pos c5] at H; have c5b0 := eq_true c5
 have c5b1 : decide (0 ≤ s0_1) = true := decide_eq_true c5
 clear c5; by_cases c6 : s0_1 ≤ (s0_0.size : Int); rotate_left
 · rw [if_neg c6] at H; exact absurd H (by simp)
 rw [if_pos c6] at H; have c6b0 := eq_true c6
 have c6b1 : decide (s0_1 ≤ (s0_0.size : Int)) = true := decide_eq_true c6
 clear c6
 replace H := Option.bind_eq_some_iff.mp H
 obtain ⟨t160, A70, H⟩ := H
 replace H : (if t160 = true then (some (true, s0_0, wrap64 (s0_1 + (a1.size : Int)), false)) else (some (false, s0_0, s0_1, false))) = some (r1, r2, r3, r4) := H
 have A7 := Aside0.mk A70; clear A70; by_cases c8 : t160 = true
 ·
  subst c8
  have H1 : (some (true, s0_0, wrap64 (s0_1 + (a1.size : Int)), false)) = some (r1, r2, r3, r4) := by rw [if_pos rfl] at H; exact H
  clear H; have H := H1; clear H1
  simp only [Option.some.injEq, Prod.mk.injEq] at H
  obtain ⟨rfl, rfl, rfl, rfl⟩ := H
  obtain ⟨HGz9, hgz9⟩ := HI0.out
  have hcz9_0 := cellS161_0 HGz9; have hcz9_1 := cellS161_1 HGz9; have hcz9_2 := cellS161_2 HGz9; have hfz9_0 := blk_frozen HGz9 0; have hfz9_1 := blk_frozen HGz9 1; have hfz9_2 := blk_frozen HGz9 2; clear HGz9 hgz9
  go_enter Tryz.func172, Tryz.ntmps172
  go_wp2_with (first | (go_at_call 108; (with_reducible refine (strings_HasPrefix.calls (s0_0.extract (s0_1 : Int).toNat s0_0.size) a1 true _ A7.out).mono ?_); rintro e w' ⟨rfl, ⟨nd, rfl⟩⟩; (try first | exact ⟨rfl, _, World.drewN_drewN _ _ _⟩ | exact ⟨rfl, _, Eq.trans (World.drewN_drewN _ _ _) (congrArg (World.drewN _) (Nat.add_assoc _ _ _))⟩)))
  repeat (go_quiet (first | (go_at_call 108; (with_reducible refine (strings_HasPrefix.calls (s0_0.extract (s0_1 : Int).toNat s0_0.size) a1 true _ A7.out).mono ?_); rintro e w' ⟨rfl, ⟨nd, rfl⟩⟩; (try first | exact ⟨rfl, _, World.drewN_drewN _ _ _⟩ | exact ⟨rfl, _, Eq.trans (World.drewN_drewN _ _ _) (congrArg (World.drewN _) (Nat.add_assoc _ _ _))⟩))); try go_wp2_with (first | (go_at_call 108; (with_reducible refine (strings_HasPrefix.calls (s0_0.extract (s0_1 : Int).toNat s0_0.size) a1 true _ A7.out).mono ?_); rintro e w' ⟨rfl, ⟨nd, rfl⟩⟩; (try first | exact ⟨rfl, _, World.drewN_drewN _ _ _⟩ | exact ⟨rfl, _, Eq.trans (World.drewN_drewN _ _ _) (congrArg (World.drewN _) (Nat.add_assoc _ _ _))⟩))))
  go_ret
  exact ⟨eR, by repeat (first | (with_reducible first | exact HI0.out | apply IsS161.alloc | apply IsS161.drewN | apply IsS161.drew | apply IsS161.set_0 | apply IsS161.set_1 | apply IsS161.set_2) | exact HI0.out), by repeat (first | (with_reducible first | exact HB.out | apply below_alloc | apply pw_below_drewN | apply below_drew1 | refine below_set ?_ (IsS161.ge HI0.out)) | exact HB.out), by repeat (first | (with_reducible first | exact HK.out | apply KeepBut.set_ | apply keep_drewN | apply keep_drew | apply keep_alloc) | exact HK.out)⟩
 replace c8 := Bool.eq_false_iff.mpr c8
 subst c8
 have H1 : (some (false, s0_0, s0_1, false)) = some (r1, r2, r3, r4) := by rw [if_neg (show ¬ (false = true) by decide)] at H; exact H
 clear H; have H := H1; clear H1
 simp only [Option.some.injEq, Prod.mk.injEq] at H
 obtain ⟨rfl, rfl, rfl, rfl⟩ := H
 obtain ⟨HGz10, hgz10⟩ := HI0.out
 have hcz10_0 := cellS161_0 HGz10; have hcz10_1 := cellS161_1 HGz10; have hcz10_2 := cellS161_2 HGz10; have hfz10_0 := blk_frozen HGz10 0; have hfz10_1 := blk_frozen HGz10 1; have hfz10_2 := blk_frozen HGz10 2; clear HGz10 hgz10
 go_enter Tryz.func172, Tryz.ntmps172
 go_wp2_with (first | (go_at_call 108; (with_reducible refine (strings_HasPrefix.calls (s0_0.extract (s0_1 : Int).toNat s0_0.size) a1 false _ A7.out).mono ?_); rintro e w' ⟨rfl, ⟨nd, rfl⟩⟩; (try first | exact ⟨rfl, _, World.drewN_drewN _ _ _⟩ | exact ⟨rfl, _, Eq.trans (World.drewN_drewN _ _ _) (congrArg (World.drewN _) (Nat.add_assoc _ _ _))⟩)))
 repeat (go_quiet (first | (go_at_call 108; (with_reducible refine (strings_HasPrefix.calls (s0_0.extract (s0_1 : Int).toNat s0_0.size) a1 false _ A7.out).mono ?_); rintro e w' ⟨rfl, ⟨nd, rfl⟩⟩; (try first | exact ⟨rfl, _, World.drewN_drewN _ _ _⟩ | exact ⟨rfl, _, Eq.trans (World.drewN_drewN _ _ _) (congrArg (World.drewN _) (Nat.add_assoc _ _ _))⟩))); try go_wp2_with (first | (go_at_call 108; (with_reducible refine (strings_HasPrefix.calls (s0_0.extract (s0_1 : Int).toNat s0_0.size) a1 false _ A7.out).mono ?_); rintro e w' ⟨rfl, ⟨nd, rfl⟩⟩; (try first | exact ⟨rfl, _, World.drewN_drewN _ _ _⟩ | exact ⟨rfl, _, Eq.trans (World.drewN_drewN _ _ _) (congrArg (World.drewN _) (Nat.add_assoc _ _ _))⟩))))
 go_ret
 exact ⟨eR, by repeat (first | (with_reducible first | exact HI0.out | apply IsS161.alloc | apply IsS161.drewN | apply IsS161.drew | apply IsS161.set_0 | apply IsS161.set_1 | apply IsS161.set_2) | exact HI0.out), by repeat (first | (with_reducible first | exact HB.out | apply below_alloc | apply pw_below_drewN | apply below_drew1 | refine below_set ?_ (IsS161.ge HI0.out)) | exact HB.out), by repeat (first | (with_reducible first | exact HK.out | apply KeepBut.set_ | apply keep_drewN | apply keep_drew | apply keep_alloc) | exact HK.out)⟩
def attr_reader_need.f (s0_0 : ByteArray) (s0_1 : Int) (s0_2 : Bool) (a1 : ByteArray) : Option (ByteArray × Int × Bool) := (attr_reader_take.f s0_0 s0_1 s0_2 a1).bind fun bt161 => (if bt161.1 = true then (some (bt161.2.1, bt161.2.2.1, bt161.2.2.2)) else (some (bt161.2.1, bt161.2.2.1, true)))
set_option maxHeartbeats 8000000 in
set_option maxRecDepth 100000 in
theorem attr_reader_need.calls (g : Nat) (s0_0 : ByteArray) (s0_1 : Int) (s0_2 : Bool) (a1 : ByteArray) (r1 : ByteArray) (r2 : Int) (r3 : Bool) (w0 w : World) (hI : IsS161 w0 w g s0_0 s0_1 s0_2) (hB : Below w0.heap.size w0 w) (h : attr_reader_need.f s0_0 s0_1 s0_2 a1 = some (r1, r2, r3)) :
  Calls Tryz.prog 162 #[.pointer (some ⟨g, 0, none⟩), .string a1] w fun e w' => e = .returned (.tuple #[]) ∧ IsS161 w0 w' g r1 r2 r3 ∧ Below w0.heap.size w0 w' ∧ KeepBut w w' g none := by
 have HI0 := Aside0.mk hI; have HK := Aside0.mk (KeepBut.refl w g none); have HL := Aside0.mk hB.size; clear hI; have HW0 := Aside0.mk hB.size; have HB := Aside0.mk hB; clear hB
 have H : ((attr_reader_take.f s0_0 s0_1 s0_2 a1).bind fun bt161 => (if bt161.1 = true then (some (bt161.2.1, bt161.2.2.1, bt161.2.2.2)) else (some (bt161.2.1, bt161.2.2.1, true)))) = some (r1, r2, r3) := h
 clear h
 replace H := Option.bind_eq_some_iff.mp H
 obtain ⟨⟨t161, t162, t163, t164⟩, A30, H⟩ := H
 replace H : (if t161 = true then (some (t162, t163, t164)) else (some (t162, t163, true))) = some (r1, r2, r3) := H
 have A3 := Aside0.mk A30; clear A30; by_cases c4 : t161 = true
 ·
  subst c4
  have H1 : (some (t162, t163, t164)) = some (r1, r2, r3) := by rw [if_pos rfl] at H; exact H
  clear H; have H := H1; clear H1
  simp only [Option.some.injEq, Prod.mk.injEq] at H
  obtain ⟨rfl, rfl, rfl⟩ := H
  go_enter Tryz.func162, Tryz.ntmps162
  go_wp2_with (first | ((with_reducible refine gate_callee (f := 172) rfl ?_); refine goesL_ (some 7) rfl rfl Tryz.func172 (by kernel_rfl) rfl #[.pointer (some ⟨g, 0, none⟩), .string a1] rfl lR ?_; (with_reducible refine (attr_reader_take.calls g s0_0 s0_1 s0_2 a1 true t162 t163 t164 w0 _ ?side1 ?side2 A3.out).mono ?_); (case side1 => repeat (first | (with_reducible first | exact HI0.out | apply IsS161.alloc | apply IsS161.drewN | apply IsS161.drew | apply IsS161.set_0 | apply IsS161.set_1 | apply IsS161.set_2) | exact HI0.out)); (case side2 => repeat (first | (with_reducible first | exact HB.out | apply below_alloc | apply pw_below_drewN | apply below_drew1 | refine below_set ?_ (IsS161.ge HI0.out)) | exact HB.out)); rintro e w5 ⟨rfl, hi, hb, hk⟩; refine ⟨_, rfl, ?_⟩; have n0_ := Aside0.mk (KeepBut.trans (by repeat (first | (with_reducible first | exact HK.out | apply KeepBut.set_ | apply keep_drewN | apply keep_drew | apply keep_alloc) | exact HK.out)) hk (.inl rfl)); have n1_ := Aside0.mk (hb); have n2_ := Aside0.mk (hi); clear HK; clear HB; clear HI0; have HK := n0_; have HB := n1_; have HI0 := n2_; clear n0_ n1_ n2_; (try clear hb); (try clear hb2); (try clear hk); (try clear hi); obtain ⟨HGz6, hgz6⟩ := HI0.out; have hcz6_0 := cellS161_0 HGz6; have hcz6_1 := cellS161_1 HGz6; have hcz6_2 := cellS161_2 HGz6; have hfz6_0 := blk_frozen HGz6 0; have hfz6_1 := blk_frozen HGz6 1; have hfz6_2 := blk_frozen HGz6 2; clear HGz6 hgz6))
  first | go_end0 | ((try simp only [Exit.inBlock, Exit.then]); refine bodyPost_ret (results_none rfl _ _ _) rfl ?_)
  exact ⟨eR, by repeat (first | (with_reducible first | exact HI0.out | apply IsS161.alloc | apply IsS161.drewN | apply IsS161.drew | apply IsS161.set_0 | apply IsS161.set_1 | apply IsS161.set_2) | exact HI0.out), by repeat (first | (with_reducible first | exact HB.out | apply below_alloc | apply pw_below_drewN | apply below_drew1 | refine below_set ?_ (IsS161.ge HI0.out)) | exact HB.out), by repeat (first | (with_reducible first | exact HK.out | apply KeepBut.set_ | apply keep_drewN | apply keep_drew | apply keep_alloc) | exact HK.out)⟩
 replace c4 := Bool.eq_false_iff.mpr c4
 subst c4
 have H1 : (some (t162, t163, true)) = some (r1, r2, r3) := by rw [if_neg (show ¬ (false = true) by decide)] at H; exact H
 clear H; have H := H1; clear H1
 simp only [Option.some.injEq, Prod.mk.injEq] at H
 obtain ⟨rfl, rfl, rfl⟩ := H
 go_enter Tryz.func162, Tryz.ntmps162
 go_wp2_with (first | ((with_reducible refine gate_callee (f := 172) rfl ?_); refine goesL_ (some 7) rfl rfl Tryz.func172 (by kernel_rfl) rfl #[.pointer (some ⟨g, 0, none⟩), .string a1] rfl lR ?_; (with_reducible refine (attr_reader_take.calls g s0_0 s0_1 s0_2 a1 false t162 t163 t164 w0 _ ?side1 ?side2 A3.out).mono ?_); (case side1 => repeat (first | (with_reducible first | exact HI0.out | apply IsS161.alloc | apply IsS161.drewN | apply IsS161.drew | apply IsS161.set_0 | apply IsS161.set_1 | apply IsS161.set_2) | exact HI0.out)); (case side2 => repeat (first | (with_reducible first | exact HB.out | apply below_alloc | apply pw_below_drewN | apply below_drew1 | refine below_set ?_ (IsS161.ge HI0.out)) | exact HB.out)); rintro e w7 ⟨rfl, hi, hb, hk⟩; refine ⟨_, rfl, ?_⟩; have n0_ := Aside0.mk (KeepBut.trans (by repeat (first | (with_reducible first | exact HK.out | apply KeepBut.set_ | apply keep_drewN | apply keep_drew | apply keep_alloc) | exact HK.out)) hk (.inl rfl)); have n1_ := Aside0.mk (hb); have n2_ := Aside0.mk (hi); clear HK; clear HB; clear HI0; have HK := n0_; have HB := n1_; have HI0 := n2_; clear n0_ n1_ n2_; (try clear hb); (try clear hb2); (try clear hk); (try clear hi); obtain ⟨HGz8, hgz8⟩ := HI0.out; have hcz8_0 := cellS161_0 HGz8; have hcz8_1 := cellS161_1 HGz8; have hcz8_2 := cellS161_2 HGz8; have hfz8_0 := blk_frozen HGz8 0; have hfz8_1 := blk_frozen HGz8 1; have hfz8_2 := blk_frozen HGz8 2; clear HGz8 hgz8))
 first | go_end0 | ((try simp only [Exit.inBlock, Exit.then]); refine bodyPost_ret (results_none rfl _ _ _) rfl ?_)
 exact ⟨eR, by repeat (first | (with_reducible first | exact HI0.out | apply IsS161.alloc | apply IsS161.drewN | apply IsS161.drew | apply IsS161.set_0 | apply IsS161.set_1 | apply IsS161.set_2) | exact HI0.out), by repeat (first | (with_reducible first | exact HB.out | apply below_alloc | apply pw_below_drewN | apply below_drew1 | refine below_set ?_ (IsS161.ge HI0.out)) | exact HB.out), by repeat (first | (with_reducible first | exact HK.out | apply KeepBut.set_ | apply keep_drewN | apply keep_drew | apply keep_alloc) | exact HK.out)⟩
end Go.Proofs.YtkedidjjhhjdbaaGreatDoor.Pr
end
section
set_option linter.unusedVariables false
set_option linter.unusedSimpArgs false
namespace Go.Proofs.YtkedidjjhhjdbaaGreatDoor.Pr
open Go.RowKit Go.Proofs.YtkedidjjhhjdbaaGreatDoorW.PrintWords Go.Proofs.YtkedidjjhhjdbaaGreatDoorW.PrintLast Go.Proofs.YtkedidjjhhjdbaaGreatDoorW.PrintMore
def attr_reader_peek.f (s0_0 : ByteArray) (s0_1 : Int) (s0_2 : Bool) : Option Int := if s0_1 < (s0_0.size : Int) then (if 0 ≤ s0_1 then some (bt s0_0 s0_1) else none) else some 0
set_option maxHeartbeats 8000000 in
set_option maxRecDepth 100000 in
theorem attr_reader_peek.calls (g : Nat) (s0_0 : ByteArray) (s0_1 : Int) (s0_2 : Bool) (r : Int) (w0 w : World) (hI : IsS161 w0 w g s0_0 s0_1 s0_2) (hB : Below w0.heap.size w0 w) (h : attr_reader_peek.f s0_0 s0_1 s0_2 = some r) :
  Calls Tryz.prog 163 #[.pointer (some ⟨g, 0, none⟩)] w fun e w' => e = .returned (.int .u8 r) ∧ Drawn0 w w' := by
 clear hB
 unfold attr_reader_peek.f at h
 obtain ⟨HG, hg⟩ := hI
 have hc0 := cellS161_0 HG; have hc1 := cellS161_1 HG; have hc2 := cellS161_2 HG; have hf0 := blk_frozen HG 0; have hf1 := blk_frozen HG 1; have hf2 := blk_frozen HG 2; clear HG hg; by_cases c2 : s0_1 < (s0_0.size : Int); rotate_left
 ·
  rw [if_neg c2] at h
  obtain rfl := Option.some.inj h
  clear h
  have c2b0 : decide (s0_1 < (s0_0.size : Int)) = false := decide_eq_false c2
  clear c2
  go_enter Tryz.func163, Tryz.ntmps163
  go_wp2
  repeat (go_quiet (fail); try go_wp2)
  go_ret
  first | exact ⟨rfl, ⟨⟨_, rfl⟩⟩⟩ | exact ⟨rfl, ⟨⟨_, World.drewN_drewN _ _ _⟩⟩⟩ | exact ⟨rfl, Drawn0.refl _⟩
 rw [if_pos c2] at h
 have c2b0 : decide (s0_1 < (s0_0.size : Int)) = true := decide_eq_true c2
 by_cases c3 : 0 ≤ s0_1; rotate_left
 · rw [if_neg c3] at h; cases h
 rw [if_pos c3] at h
 obtain rfl := Option.some.inj h
 clear h; have hx4 := bt_at s0_0 s0_1; replace c2 := eq_true c2; replace c3 := eq_true c3
 go_enter Tryz.func163, Tryz.ntmps163
 go_wp2
 repeat (go_quiet (fail); try go_wp2)
 go_ret
 first | exact ⟨rfl, ⟨⟨_, rfl⟩⟩⟩ | exact ⟨rfl, ⟨⟨_, World.drewN_drewN _ _ _⟩⟩⟩ | exact ⟨rfl, Drawn0.refl _⟩
end Go.Proofs.YtkedidjjhhjdbaaGreatDoor.Pr
end
