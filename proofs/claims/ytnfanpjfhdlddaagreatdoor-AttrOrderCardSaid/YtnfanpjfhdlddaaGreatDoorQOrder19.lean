import Derived.Test.YtnfanpjfhdlddaaGreatDoorQOrder17
import Derived.Test.YtnfanpjfhdlddaaGreatDoorQOrder18
section
set_option linter.unusedVariables false
set_option linter.unusedSimpArgs false
namespace Go.Proofs.YtnfanpjfhdlddaaGreatDoor.Pr
open Go.RowKit Go.Proofs.YtnfanpjfhdlddaaGreatDoorW.PrintWords Go.Proofs.YtnfanpjfhdlddaaGreatDoorW.PrintLast Go.Proofs.YtnfanpjfhdlddaaGreatDoorW.PrintMore
def cmpL : List S45 → List S45 → Int
  | [], [] => 0
  | [], _ :: _ => -1
  | _ :: _, [] => 1
  | x :: a, y :: b => if cmpAttr x y = 0 then cmpL a b else cmpAttr x y
theorem cmpL_l0 (a b : List S45) (ha : a.length < 4398046511104) : ∀ (n i : Nat), i + n = a.length → i ≤ b.length → ∀ k, n < k → api_Attr_42.l0 k a b a (a.length : Int) (i : Int) = some (cmpL (a.drop i) (b.drop i))
 | _, _, _, _, 0, hk => absurd hk (by omega)
 | 0, i, hn, hb, k + 1, hk => by
  rw [api_Attr_42.l0, if_neg (by omega), List.drop_of_length_le (show a.length ≤ i by omega)]
  by_cases h : (a.length : Int) < (b.length : Int)
  ·
   rw [if_pos h, drop_cons b i (by omega)]; rfl
  ·
   rw [if_neg h, List.drop_of_length_le (show b.length ≤ i by omega)]; rfl
 | n + 1, i, hn, hb, k + 1, hk => by
  by_cases hib : i < b.length
  ·
   rw [api_Attr_42.l0, if_pos (by omega), if_pos (by omega), if_pos (by omega), if_neg (by omega), if_pos (by omega), rd_at a i (by omega), rd_at b i hib, attr_Cmp_1.f, Option.bind_some, wrap_small (n := (i : Int) + 1) (by omega) (by omega), drop_cons a i (by omega), drop_cons b i hib, cmpL]
   by_cases ht : cmpAttr (a[i]'(by omega)) (b[i]'hib) = 0
   ·
    rw [if_pos ht, if_pos ht]
    exact cmpL_l0 a b ha n (i + 1) (by omega) (by omega) k (by omega)
   ·
    rw [if_neg ht, if_neg ht]
  ·
   rw [api_Attr_42.l0, if_pos (by omega), if_pos (by omega), if_pos (by omega), if_pos (by omega), drop_cons a i (by omega), List.drop_of_length_le (show b.length ≤ i by omega)]; rfl
theorem cmpL_ev (a b : List S45) (ha : a.length < 4398046511104) : Ev (fun k => attr_Cmp.f k a b) (cmpL a b) := by
 refine ⟨a.length + 1, fun k hk => ?_⟩
 dsimp only
 rw [attr_Cmp.f, api_Attr_42.f]
 have := cmpL_l0 a b ha a.length 0 (by omega) (Nat.zero_le _) k (by omega)
 rw [show ((0 : Nat) : Int) = 0 from rfl] at this
 rw [this]; rfl
theorem cmpAttr_flip (x y : S45) : cmpAttr y x = - cmpAttr x y := by
 unfold cmpAttr
 by_cases h : x.f0.data.toList = y.f0.data.toList
 ·
  rw [if_pos h, if_pos h.symm, cmp_flip]
 ·
  rw [if_neg h, if_neg (fun e => h e.symm), cmp_flip]
theorem cmpAttr_range (x y : S45) : cmpAttr x y = -1 ∨ cmpAttr x y = 0 ∨ cmpAttr x y = 1 := by
 unfold cmpAttr; split <;> exact cmp_range _ _
theorem cmpL_flip : ∀ a b, cmpL b a = - cmpL a b
 | [], [] => rfl
 | [], _ :: _ => rfl
 | _ :: _, [] => rfl
 | x :: a, y :: b => by
  rw [cmpL, cmpL, cmpAttr_flip, cmpL_flip a b]
  by_cases h : cmpAttr x y = 0
  ·
   rw [if_pos (by omega), if_pos h]
  ·
   rw [if_neg (by omega), if_neg h]
theorem cmpL_range : ∀ a b, cmpL a b = -1 ∨ cmpL a b = 0 ∨ cmpL a b = 1
 | [], [] => .inr (.inl rfl)
 | [], _ :: _ => .inl rfl
 | _ :: _, [] => .inr (.inr rfl)
 | x :: a, y :: b => by
  rw [cmpL]; split
  ·
   exact cmpL_range a b
  ·
   exact cmpAttr_range x y
theorem cmpL_zero : ∀ a b, cmpL a b = 0 ↔ sameL a b = true
 | [], [] => by simp [cmpL, sameL]
 | [], _ :: _ => by simp [cmpL, sameL]
 | _ :: _, [] => by simp [cmpL, sameL]
 | x :: a, y :: b => by
  rw [cmpL, sameL, Bool.and_eq_true, ← cmpAttr_zero, ← cmpL_zero a b]
  by_cases h : cmpAttr x y = 0
  ·
   rw [if_pos h]; exact ⟨fun e => ⟨h, e⟩, fun e => e.2⟩
  ·
   rw [if_neg h]; exact ⟨fun e => absurd e h, fun e => absurd e.1 h⟩
theorem cb_trans {a b c : List UInt8} (h1 : Lib.compareBytes a b ≤ 0) (h2 : Lib.compareBytes b c ≤ 0) : Lib.compareBytes a c ≤ 0 := by
 have f1 := cmp_flip a b
 have f2 := cmp_flip b c
 have f3 := cmp_flip a c
 have l1 : Op.bytesLess b a = false := by rw [← cmp_lt]; exact decide_eq_false (by omega)
 have l2 : Op.bytesLess c b = false := by rw [← cmp_lt]; exact decide_eq_false (by omega)
 have l3 := less_ntrans c b a l2 l1
 rw [← cmp_lt] at l3
 have := of_decide_eq_false l3
 omega
theorem cmpAttr_trans {x y z : S45} (h1 : cmpAttr x y ≤ 0) (h2 : cmpAttr y z ≤ 0) : cmpAttr x z ≤ 0 := by
 unfold cmpAttr at *
 by_cases e1 : x.f0.data.toList = y.f0.data.toList
 ·
  rw [if_pos e1] at h1
  by_cases e2 : y.f0.data.toList = z.f0.data.toList
  ·
   rw [if_pos e2] at h2
   rw [if_pos (e1.trans e2)]
   exact cb_trans h1 h2
  ·
   rw [if_neg e2] at h2
   rw [if_neg (fun e => e2 (e1.symm.trans e)), e1]
   exact h2
 ·
  rw [if_neg e1] at h1
  by_cases e2 : y.f0.data.toList = z.f0.data.toList
  ·
   rw [if_neg (fun e => e1 (e.trans e2.symm)), ← e2]
   exact h1
  ·
   rw [if_neg e2] at h2
   have h3 := cb_trans h1 h2
   by_cases e3 : x.f0.data.toList = z.f0.data.toList
   ·
    exfalso
    rw [e3] at h1
    have := cmp_flip y.f0.data.toList z.f0.data.toList
    exact e2 (cmp_eq0 (by omega))
   ·
    rw [if_neg e3]; exact h3
theorem cmpAttr_eq_l {x y z : S45} (h : cmpAttr x y = 0) : cmpAttr x z = cmpAttr y z := by
 have := (cmpAttr_zero x y).1 h
 unfold eqB at this
 rw [Bool.and_eq_true, beq_iff_eq, beq_iff_eq] at this
 unfold cmpAttr
 rw [this.1, this.2]
theorem cmpAttr_eq_r {x y z : S45} (h : cmpAttr y z = 0) : cmpAttr x z = cmpAttr x y := by
 have := (cmpAttr_zero y z).1 h
 unfold eqB at this
 rw [Bool.and_eq_true, beq_iff_eq, beq_iff_eq] at this
 unfold cmpAttr
 rw [this.1, this.2]
theorem cmpL_trans : ∀ a b c, cmpL a b ≤ 0 → cmpL b c ≤ 0 → cmpL a c ≤ 0
 | [], _, [], _, _ => by simp [cmpL]
 | [], _, _ :: _, _, _ => by simp [cmpL]
 | _ :: _, [], _, h, _ => by simp [cmpL] at h
 | _ :: _, _ :: _, [], _, h => by simp [cmpL] at h
 | x :: a, y :: b, z :: c, h1, h2 => by
  rw [cmpL] at h1 h2 ⊢
  by_cases e1 : cmpAttr x y = 0
  ·
   rw [if_pos e1] at h1
   rw [cmpAttr_eq_l (z := z) e1]
   by_cases e2 : cmpAttr y z = 0
   ·
    rw [if_pos e2] at h2
    rw [if_pos e2]
    exact cmpL_trans a b c h1 h2
   ·
    rw [if_neg e2] at h2
    rw [if_neg e2]; exact h2
  ·
   rw [if_neg e1] at h1
   by_cases e2 : cmpAttr y z = 0
   ·
    rw [cmpAttr_eq_r (x := x) e2, if_neg e1]; exact h1
   ·
    rw [if_neg e2] at h2
    have h3 := cmpAttr_trans h1 h2
    by_cases e3 : cmpAttr x z = 0
    ·
     exfalso
     have := cmpAttr_eq_l (z := y) e3
     have f := cmpAttr_flip y z
     omega
    ·
     rw [if_neg e3]; exact h3
def woL (key : ByteArray) (l : List S45) : List S45 := l.filter fun x => !(key.data.toList == keyL x)
theorem contains_one (a s : ByteArray) : Ev (fun k => slices_Contains_string_string.f k [a] s) (a.data.toList == s.data.toList) := by
 refine ⟨5, fun k hk => ?_⟩
 obtain ⟨k, rfl⟩ : ∃ j, k = j + 2 := ⟨k - 2, by omega⟩
 dsimp only
 unfold slices_Contains_string_string.f slices_Index_string_string.f
 rw [slices_Index_string_string.l0, if_pos (by simp), if_pos (by omega), if_pos (by simp)]
 simp only [Lib.toList_data]
 have e : rdOf ByteArray.empty [a] 0 = a := rfl
 rw [e]
 by_cases h : s.data.toList = a.data.toList
 ·
  rw [if_pos h, h]; simp
 ·
  rw [if_neg h, wrap_small (by omega) (by omega), slices_Index_string_string.l0, if_neg (by simp), beq_eq_false_iff_ne.2 (fun e => h e.symm)]; simp
theorem without_l0 (key : ByteArray) (l : List S45) (hl : l.length < 4398046511104) : ∀ (n i : Nat) (m : List S45), i + n = l.length → m.length ≤ i → Ev (fun k => attr_Without.l0 k [key] m l (l.length : Int) (i : Int)) (m ++ woL key (l.drop i))
 | 0, i, m, hn, hm => by
  refine ⟨1, fun k hk => ?_⟩
  obtain ⟨k, rfl⟩ : ∃ j, k = j + 1 := ⟨k - 1, by omega⟩
  dsimp only
  rw [attr_Without.l0, if_neg (by omega), List.drop_of_length_le (show l.length ≤ i by omega)]
  simp [woL]
 | n + 1, i, m, hn, hm => by
  have hi : i < l.length := by omega
  obtain ⟨C, hC⟩ := contains_one key l[i].f0
  obtain ⟨K1, h1⟩ := without_l0 key l hl n (i + 1) m (by omega) (by omega)
  obtain ⟨K2, h2⟩ := without_l0 key l hl n (i + 1) (m ++ [l[i]]) (by omega) (by simp; omega)
  refine ⟨C + K1 + K2 + 1, fun k hk => ?_⟩
  obtain ⟨k, rfl⟩ : ∃ j, k = j + 1 := ⟨k - 1, by omega⟩
  have hC' := hC k (by omega)
  have h1' := h1 k (by omega)
  have h2' := h2 k (by omega)
  dsimp only at hC' h1' h2' ⊢
  rw [attr_Without.l0, if_pos (by omega), if_pos (by omega), if_pos (by omega), rd_at l i hi, hC', Option.bind_some, wrap_small (n := (i : Int) + 1) (by omega) (by omega), drop_cons l i hi]
  unfold woL
  rw [List.filter_cons]
  cases h : key.data.toList == l[i].f0.data.toList with
  | true =>
   rw [if_pos rfl, if_neg (by simp)]
   exact h1'
  | false =>
   rw [if_neg (by simp), if_pos (by omega), if_pos (by simp)]
   refine h2'.trans ?_
   simp [woL]
theorem without_ev (key : ByteArray) (l : List S45) (hl : l.length < 4398046511104) : Ev (fun k => attr_Without.f k l [key]) (woL key l) := by
 have := without_l0 key l hl l.length 0 [] (by omega) (Nat.le_refl _)
 exact this
theorem woL_len (key : ByteArray) (l : List S45) : (woL key l).length ≤ l.length := List.length_filter_le _ _
theorem woL_idem (key : ByteArray) (l : List S45) : woL key (woL key l) = woL key l := by
 unfold woL
 rw [List.filter_filter]
 congr 1
 funext x
 cases (key.data.toList == keyL x) <;> rfl
def getL (key : ByteArray) : List S45 → ByteArray × Bool
  | [] => (⟨#[]⟩, false)
  | x :: l => if keyL x = key.data.toList then (x.f1, true) else getL key l
theorem get_l0 (key : ByteArray) (l : List S45) (hl : l.length < 4398046511104) : ∀ (n i : Nat), i + n = l.length → ∀ k, n < k → attr_Get.l0 k key l (l.length : Int) (i : Int) = some (getL key (l.drop i))
 | _, _, _, 0, hk => absurd hk (by omega)
 | 0, i, hn, k + 1, hk => by
  rw [attr_Get.l0, if_neg (by omega), List.drop_of_length_le (show l.length ≤ i by omega)]; rfl
 | n + 1, i, hn, k + 1, hk => by
  have hi : i < l.length := by omega
  rw [attr_Get.l0, if_pos (by omega), if_pos (by omega), if_pos (by omega), rd_at l i hi, drop_cons l i hi, getL, wrap_small (n := (i : Int) + 1) (by omega) (by omega), show (i : Int) + 1 = ((i + 1 : Nat) : Int) by omega, get_l0 key l hl n (i + 1) (by omega) k (by omega)]
  simp only [Lib.toList_data]
  by_cases h : keyL l[i] = key.data.toList
  ·
   rw [if_pos h, if_pos h]
  ·
   rw [if_neg h, if_neg h]
theorem get_ev (key : ByteArray) (l : List S45) (hl : l.length < 4398046511104) : Ev (fun k => attr_Get.f k l key) (getL key l) := by
 refine ⟨l.length + 1, fun k hk => ?_⟩
 have := get_l0 key l hl l.length 0 (by omega) k (by omega)
 exact this
def putL (l : List S45) (key value : ByteArray) : List S45 × Int :=
  if value.size = 0 then setOf (woL key l) else setOf (woL key l ++ [⟨key, value⟩])
end Go.Proofs.YtnfanpjfhdlddaaGreatDoor.Pr
end
section
set_option linter.unusedVariables false
set_option linter.unusedSimpArgs false
namespace Go.Proofs.YtnfanpjfhdlddaaGreatDoor.Pr
open Go.RowKit Go.Proofs.YtnfanpjfhdlddaaGreatDoorW.PrintWords Go.Proofs.YtnfanpjfhdlddaaGreatDoorW.PrintLast Go.Proofs.YtnfanpjfhdlddaaGreatDoorW.PrintMore
theorem nil_size {s : ByteArray} : s.toList = ([] : List UInt8) ↔ s.size = 0 := toList_nil
theorem set_ev (l : List S45) (key value : ByteArray) (hl : l.length < 4398046511104) : Ev (fun k => attr_Set.f k l key value) (putL l key value) := by
 unfold attr_Set.f putL
 have hw := woL_len key l
 refine Ev.bind (without_ev key l hl) ?_
 by_cases h : value.size = 0
 ·
  simp only [if_pos (nil_size.2 h), if_pos h]
  exact Ev.bind (make_eq _) (Ev.const rfl)
 ·
  simp only [if_neg (fun e => h (nil_size.1 e)), if_neg h, if_pos (show (woL key l).length < 4398046511104 by omega)]
  exact Ev.bind (make_eq _) (Ev.const rfl)
theorem bytes_ext {a b : ByteArray} (h : a.data.toList = b.data.toList) : a = b := by
 cases a; cases b; simp at h; simp [h]
theorem eqB_eq {x y : S45} (h : eqB x y = true) : x = y := by
 unfold eqB at h
 rw [Bool.and_eq_true, beq_iff_eq, beq_iff_eq] at h
 cases x; cases y
 simp only at h
 rw [bytes_ext h.1, bytes_ext h.2]
theorem sameL_eq : ∀ {a b : List S45}, sameL a b = true → a = b
 | [], [], _ => rfl
 | [], _ :: _, h => by simp [sameL] at h
 | _ :: _, [], h => by simp [sameL] at h
 | x :: a, y :: b, h => by
  rw [sameL, Bool.and_eq_true] at h
  rw [eqB_eq h.1, sameL_eq h.2]
def okS (x : S45) : Bool := keyB x.f0 && valB x.f1
theorem fault_zero : ∀ l : List S45, faultOf l = 0 ↔ ∀ x ∈ l, okS x = true
 | [] => by simp [faultOf]
 | x :: l => by
  rw [faultOf]
  have ih := fault_zero l
  cases h1 : keyB x.f0 <;> cases h2 : valB x.f1 <;> simp [okS, h1, h2]
  simpa [okS] using ih
theorem setOf_ok {l : List S45} (h : (setOf l).2 = 0) : l.length ≤ 16 ∧ faultOf l = 0 ∧ dupAdj (sorted45 l) = false ∧ (setOf l).1 = sorted45 l := by
 unfold setOf at h ⊢
 by_cases h1 : (l.length : Int) > 16
 ·
  rw [if_pos h1] at h; cases h
 ·
  rw [if_neg h1] at h ⊢
  by_cases h2 : faultOf l ≠ 0
  ·
   rw [if_pos h2] at h; exact absurd h h2
  ·
   rw [if_neg h2] at h ⊢
   cases h3 : dupAdj (sorted45 l) with
   | true => rw [h3, if_pos rfl] at h; cases h
   | false => exact ⟨by omega, Decidable.not_not.1 h2, rfl, by simp⟩
theorem setOf_of {l m : List S45} (hl : l.length ≤ 16) (hf : ∀ x ∈ l, okS x = true) (hp : l.Perm m) (hm : Srt m) (hd : dupAdj m = false) : setOf l = (m, 0) := by
 have hs := sorted_srt l
 have hq : m.Perm (sorted45 l) := hp.symm.trans (sorted45_perm l).1.symm
 have e : m = sorted45 l := same_sorted hq hm hs hd
 unfold setOf
 rw [if_neg (by omega), if_neg (by rw [(fault_zero l).2 hf]; simp), ← e, hd]
 rfl
theorem setOf_right {l : List S45} (h : (setOf l).2 = 0) : rightOf (setOf l).1 = 0 := by
 obtain ⟨h1, h2, h3, h4⟩ := setOf_ok h
 obtain ⟨p1, p2, -⟩ := sorted45_perm l
 have := setOf_of (l := sorted45 l) (m := sorted45 l) (by omega) (fun x hx => (fault_zero l).1 h2 x (p1.mem_iff.1 hx)) (List.Perm.refl _) (sorted_srt l) h3
 unfold rightOf
 rw [h4, this]
 simp [sameL_refl]
theorem getL_of {key : ByteArray} {y : S45} : ∀ {l : List S45}, (∃ x ∈ l, keyL x = key.data.toList) → (∀ x ∈ l, keyL x = key.data.toList → x = y) → getL key l = (y.f1, true)
 | [], h, _ => by obtain ⟨x, hx, _⟩ := h; cases hx
 | x :: l, h, g => by
  rw [getL]
  by_cases e : keyL x = key.data.toList
  ·
   rw [if_pos e, g x (List.mem_cons_self ..) e]
  ·
   rw [if_neg e]
   obtain ⟨z, hz, hk⟩ := h
   rcases List.mem_cons.1 hz with rfl | hz
   ·
    exact absurd hk e
   ·
    exact getL_of ⟨z, hz, hk⟩ (fun x hx => g x (List.mem_cons_of_mem _ hx))
theorem getL_none {key : ByteArray} : ∀ {l : List S45}, (∀ x ∈ l, keyL x ≠ key.data.toList) → getL key l = (⟨#[]⟩, false)
 | [], _ => rfl
 | x :: l, h => by
  rw [getL, if_neg (h x (List.mem_cons_self ..))]
  exact getL_none fun x hx => h x (List.mem_cons_of_mem _ hx)
theorem wo_mem {key : ByteArray} {l : List S45} {x : S45} (h : x ∈ woL key l) : x ∈ l ∧ keyL x ≠ key.data.toList := by
 unfold woL at h
 rw [List.mem_filter] at h
 exact ⟨h.1, fun e => by simp [e] at h⟩
theorem put_get {l : List S45} {key value : ByteArray} (hv : value.size ≠ 0) (h : (putL l key value).2 = 0) : getL key (putL l key value).1 = (value, true) ∧ rightOf (putL l key value).1 = 0 := by
 unfold putL at h ⊢
 rw [if_neg hv] at h ⊢
 refine ⟨?_, setOf_right h⟩
 obtain ⟨h1, h2, h3, h4⟩ := setOf_ok h
 have p1 := (sorted45_perm (woL key l ++ [⟨key, value⟩])).1
 rw [h4]
 refine getL_of (y := ⟨key, value⟩) ⟨⟨key, value⟩, p1.mem_iff.2 (by simp), rfl⟩ fun x hx e => ?_
 rcases List.mem_append.1 (p1.mem_iff.1 hx) with hx | hx
 ·
  exact absurd e (wo_mem hx).2
 ·
  exact List.mem_singleton.1 hx
theorem keys_ne {m : List S45} (hm : Srt m) (h : dupAdj m = false) : m.Pairwise fun a b => keyL a ≠ keyL b := (strict_of m hm h).imp ne_of_lt
theorem wo_none {key : ByteArray} {l : List S45} (h : ∀ x ∈ l, keyL x ≠ key.data.toList) : woL key l = l := by
 unfold woL
 refine List.filter_eq_self.2 fun x hx => ?_
 simp only [Bool.not_eq_true', beq_eq_false_iff_ne]
 exact fun e => h x hx e.symm
theorem put_back_perm {key : ByteArray} : ∀ {l : List S45}, (l.Pairwise fun a b => keyL a ≠ keyL b) → (∃ x ∈ l, keyL x = key.data.toList) → (woL key l ++ [(⟨key, (getL key l).1⟩ : S45)]).Perm l ∧ ∃ x ∈ l, (getL key l).1 = x.f1
 | [], _, h => by obtain ⟨x, hx, _⟩ := h; cases hx
 | x :: l, hp, h => by
  have hp' := List.pairwise_cons.1 hp
  rw [getL]
  by_cases e : keyL x = key.data.toList
  ·
   rw [if_pos e]
   have hn : ∀ y ∈ l, keyL y ≠ key.data.toList := fun y hy e' => hp'.1 y hy (e.trans e'.symm)
   have hw : woL key (x :: l) = l := by
    rw [woL, List.filter_cons_of_neg (by simp [e]), ← woL, wo_none hn]
   have hx : (⟨key, x.f1⟩ : S45) = x := by have e' : x.f0 = key := bytes_ext e; rw [← e']
   simp only [hw, hx]
   exact ⟨List.perm_append_comm, x, List.mem_cons_self .., rfl⟩
  ·
   rw [if_neg e]
   have h' : ∃ y ∈ l, keyL y = key.data.toList := by
    obtain ⟨z, hz, hk⟩ := h
    rcases List.mem_cons.1 hz with rfl | hz
    ·
     exact absurd hk e
    ·
     exact ⟨z, hz, hk⟩
   obtain ⟨i1, y, hy, i2⟩ := put_back_perm hp'.2 h'
   have hw : woL key (x :: l) = x :: woL key l := by
    rw [woL, List.filter_cons_of_pos (by rw [beq_eq_false_iff_ne.2 (fun e' => e e'.symm)]; rfl), ← woL]
   rw [hw]
   exact ⟨(List.Perm.cons x i1), y, List.mem_cons_of_mem _ hy, i2⟩
theorem put_back {l : List S45} (key : ByteArray) (h : rightOf l = 0) : putL l key (getL key l).1 = (l, 0) := by
 unfold rightOf at h
 by_cases h0 : (setOf l).2 = 0
 ·
  rw [if_pos h0] at h
  by_cases hs : sameL l (setOf l).1 = true
  ·
   obtain ⟨h1, h2, h3, h4⟩ := setOf_ok h0
   have el : l = sorted45 l := (sameL_eq hs).trans h4
   have hf := (fault_zero l).1 h2
   have hsrt : Srt l := by rw [el]; exact sorted_srt l
   have hd : dupAdj l = false := by rw [el]; exact h3
   by_cases hk : ∃ x ∈ l, keyL x = key.data.toList
   ·
    obtain ⟨hp, x, hx, hg⟩ := put_back_perm (keys_ne hsrt hd) hk
    have hxv := hf x hx
    unfold okS valB at hxv
    simp only [Bool.and_eq_true, decide_eq_true_eq] at hxv
    unfold putL
    rw [if_neg (by rw [hg]; omega)]
    exact setOf_of (by have := hp.length_eq; omega) (fun y hy => hf y (hp.mem_iff.1 hy)) hp hsrt hd
   ·
    have hn : ∀ x ∈ l, keyL x ≠ key.data.toList := fun x hx e => hk ⟨x, hx, e⟩
    rw [getL_none hn]
    unfold putL
    rw [if_pos (show (⟨#[]⟩ : ByteArray).size = 0 from rfl), wo_none hn]
    exact setOf_of h1 hf (List.Perm.refl _) hsrt hd
  ·
   rw [if_neg hs] at h; cases h
 ·
  rw [if_neg h0] at h; exact absurd h h0
theorem putL_len (l : List S45) (key value : ByteArray) : (putL l key value).1.length ≤ 16 := by
 unfold putL; split <;> exact setOf_len _
theorem order_j3 (a : List S45) (key : ByteArray) (ha : a.length < 4398046511104) : Ev (fun k => belfrylaw04_AttrOrder.j3 k a key) true := by
 have hw := woL_len key a
 have hw2 := woL_len key (woL key a)
 refine Ev.succ (g := fun k => (attr_Without.f k a [key]).bind fun t401 => ((attr_Without.f k t401 [key]).bind fun t407 => ((belfryref04_Same.f k t407 t401).bind fun t410 => (if t410 = true then ((belfrylaw04_known.f k).bind fun t411 => (some t411)) else (some false))))) ?_ (fun k => by rw [belfrylaw04_AttrOrder.j3])
 refine Ev.bind (without_ev key a ha) (Ev.bind (without_ev key (woL key a) (by omega)) (Ev.bind (same_eq _ _ (by omega)) ?_))
 rw [woL_idem, sameL_refl]
 simp only [if_true]
 exact Ev.bind known_ev (Ev.const rfl)
theorem order_j2 (a : List S45) (key : ByteArray) (ha : a.length < 4398046511104) : Ev (fun k => belfrylaw04_AttrOrder.j2 k a key) true := by
 refine Ev.succ (g := fun k => (belfryref04_Right.f k a).bind fun t390 => (if t390 = 0 then ((attr_Get.f k a key).bind fun bt391 => ((attr_Set.f k a key bt391.1).bind fun bt393 => (if bt393.2 = 0 then ((belfryref04_Same.f k bt393.1 a).bind fun t397 => (if t397 = true then (belfrylaw04_AttrOrder.j3 k a key) else (some false))) else (some false)))) else (belfrylaw04_AttrOrder.j3 k a key))) ?_ (fun k => by rw [belfrylaw04_AttrOrder.j2])
 refine Ev.bind (ref_right_ev a) ?_
 by_cases h : rightOf a = 0
 ·
  simp only [if_pos h]
  refine Ev.bind (get_ev key a ha) (Ev.bind (set_ev a key _ ha) ?_)
  rw [put_back key h]
  simp only [if_true]
  refine Ev.bind (same_eq a a ha) ?_
  rw [sameL_refl]
  simp only [if_true]
  exact order_j3 a key ha
 ·
  simp only [if_neg h]
  exact order_j3 a key ha
theorem order_j1 (a : List S45) (key value : ByteArray) (l : List S45) (b : Bool) (ha : a.length < 4398046511104) (hl : l.length ≤ 16) (hb : b = true → getL key l = (value, true) ∧ rightOf l = 0) : Ev (fun k => belfrylaw04_AttrOrder.j1 k a key value l b) true := by
 refine Ev.succ (g := fun k => if b = true then ((attr_Get.f k l key).bind fun bt387 => (if bt387.2 = true then (if bt387.1.toList = value.toList then ((belfryref04_Right.f k l).bind fun t389 => (if t389 = 0 then (belfrylaw04_AttrOrder.j2 k a key) else (some false))) else (some false)) else (some false))) else (belfrylaw04_AttrOrder.j2 k a key)) ?_ (fun k => by rw [belfrylaw04_AttrOrder.j1])
 cases b with
 | false => simp only [Bool.false_eq_true, if_false]; exact order_j2 a key ha
 | true =>
  obtain ⟨h1, h2⟩ := hb rfl
  simp only [if_true]
  refine Ev.bind (get_ev key l (by omega)) ?_
  rw [h1]
  simp only [if_true]
  refine Ev.bind (ref_right_ev l) ?_
  simp only [if_pos h2]
  exact order_j2 a key ha
theorem order_j0 (a : List S45) (key value : ByteArray) (ha : a.length < 4398046511104) : Ev (fun k => belfrylaw04_AttrOrder.j0 k a key value false) true := by
 refine Ev.succ (g := fun k => (attr_Set.f k a key value).bind fun bt383 => (if bt383.2 = 0 then (belfrylaw04_AttrOrder.j1 k a key value bt383.1 (value.toList != ([] : List UInt8))) else (belfrylaw04_AttrOrder.j1 k a key value bt383.1 false))) ?_ (fun k => by rw [belfrylaw04_AttrOrder.j0, if_neg (by simp)])
 refine Ev.bind (set_ev a key value ha) ?_
 have hlen := putL_len a key value
 by_cases h : (putL a key value).2 = 0
 ·
  simp only [if_pos h]
  refine order_j1 a key value _ _ ha hlen fun hv => put_get (fun e => ?_) h
  rw [nil_size.2 e] at hv; simp at hv
 ·
  simp only [if_neg h]
  exact order_j1 a key value _ _ ha hlen fun hv => by cases hv
theorem order_law (a b c : List S45) (key value : ByteArray) (ha : a.length < 4398046511104) (hb : b.length < 4398046511104) (hc : c.length < 4398046511104) : Ev (fun k => belfrylaw04_AttrOrder.f k a b c key value) true := by
 unfold belfrylaw04_AttrOrder.f
 refine Ev.bind (cmpL_ev a b ha) (Ev.bind (cmpL_ev b c hb) (Ev.bind (cmpL_ev b a hb) ?_))
 have hr := cmpL_range a b
 have hf := cmpL_flip a b
 have hwr : cmpL a b = wrap64 (-cmpL b a) := by rw [hf]; unfold wrap64; omega
 simp only [if_pos hwr]
 refine Ev.bind (same_eq a b ha) ?_
 have hz : (cmpL a b == 0) = sameL a b := by
  rw [Bool.eq_iff_iff, beq_iff_eq]; exact cmpL_zero a b
 simp only [hz, bne_self_eq_false, Bool.false_eq_true, if_false]
 by_cases h1 : cmpL a b ≤ 0
 ·
  simp only [if_pos h1]
  by_cases h2 : cmpL b c ≤ 0
  ·
   simp only [if_pos h2]
   refine Ev.bind (cmpL_ev a c ha) ?_
   have := cmpL_trans a b c h1 h2
   rw [decide_eq_false (show ¬ cmpL a c > 0 by omega)]
   exact order_j0 a key value ha
  ·
   simp only [if_neg h2]; exact order_j0 a key value ha
 ·
  simp only [if_neg h1]; exact order_j0 a key value ha
end Go.Proofs.YtnfanpjfhdlddaaGreatDoor.Pr
end
