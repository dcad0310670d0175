import Derived.Test.YtnfanpjfhdlddaaGreatDoorQSets11
import Derived.Test.YtnfanpjfhdlddaaGreatDoorQSets17
set_option linter.unusedVariables false
set_option linter.unusedSimpArgs false
namespace Go.Proofs.YtnfanpjfhdlddaaGreatDoor.Pr
open Go.RowKit Go.Proofs.YtnfanpjfhdlddaaGreatDoorW.PrintWords Go.Proofs.YtnfanpjfhdlddaaGreatDoorW.PrintLast Go.Proofs.YtnfanpjfhdlddaaGreatDoorW.PrintMore
def eqB (x y : S45) : Bool := (x.f0.data.toList == y.f0.data.toList) && (x.f1.data.toList == y.f1.data.toList)
def sameL : List S45 → List S45 → Bool
  | [], [] => true
  | x :: l, y :: m => eqB x y && sameL l m
  | _, _ => false
theorem sameL_refl : ∀ l, sameL l l = true
 | [] => rfl
 | x :: l => by rw [sameL, sameL_refl l, eqB]; simp
theorem sameL_len : ∀ {a b : List S45}, a.length ≠ b.length → sameL a b = false
 | [], [], h => absurd rfl h
 | [], _ :: _, _ => rfl
 | _ :: _, [], _ => rfl
 | _ :: a, _ :: b, h => by rw [sameL, sameL_len (a := a) (b := b) (fun e => h (by simp [e]))]; simp
theorem same_l0 (a b : List S45) (ha : a.length < 4398046511104) (hab : a.length = b.length) : ∀ (n i : Nat), i + n = a.length → ∀ k, n < k → belfryref04_Same.l0 k a b (i : Int) = some (sameL (a.drop i) (b.drop i))
 | _, _, _, 0, hk => absurd hk (by omega)
 | 0, i, hn, k + 1, hk => by
  rw [belfryref04_Same.l0, if_neg (by omega), List.drop_of_length_le (by omega), List.drop_of_length_le (by omega)]; rfl
 | n + 1, i, hn, k + 1, hk => by
  have ih := same_l0 a b ha hab n (i + 1) (by omega) k (by omega)
  rw [belfryref04_Same.l0, if_pos (by omega), if_pos (by omega), if_pos (by omega), rd_at a i (by omega), rd_at b i (by omega), wrap_small (n := (i : Int) + 1) (by omega) (by omega), drop_cons a i (by omega), drop_cons b i (by omega), sameL, eqB]
  simp only [Lib.toList_data]
  rw [show (i : Int) + 1 = ((i + 1 : Nat) : Int) by omega, ih]
  cases (a[i]'(by omega)).f0.data.toList == (b[i]'(by omega)).f0.data.toList <;> cases (a[i]'(by omega)).f1.data.toList == (b[i]'(by omega)).f1.data.toList <;> simp
theorem same_eq (a b : List S45) (ha : a.length < 4398046511104) : Ev (fun k => belfryref04_Same.f k a b) (sameL a b) := by
 refine ⟨a.length + 1, fun k hk => ?_⟩
 dsimp only
 unfold belfryref04_Same.f
 by_cases h : (a.length : Int) = (b.length : Int)
 ·
  have := same_l0 a b ha (by omega) a.length 0 (by omega) k (by omega)
  rw [show ((0 : Nat) : Int) = 0 from rfl] at this
  rw [if_pos h, this]; rfl
 ·
  rw [if_neg h, sameL_len (by omega)]
theorem cmpAttr_zero (x y : S45) : cmpAttr x y = 0 ↔ eqB x y = true := by
 unfold cmpAttr eqB
 by_cases h : x.f0.data.toList = y.f0.data.toList
 ·
  rw [if_pos h, beq_iff_eq.2 h, Bool.true_and, beq_iff_eq]
  exact ⟨fun e => cmp_eq0 e, fun e => by rw [e]; exact cmp_refl _⟩
 ·
  rw [if_neg h, beq_eq_false_iff_ne.2 h, Bool.false_and]
  exact ⟨fun e => absurd (cmp_eq0 e) h, fun e => by cases e⟩
theorem cmp_l0 (a b : List S45) (ha : a.length < 4398046511104) : ∀ (n i : Nat), i + n = a.length → i ≤ b.length → ∃ c : Int, (c = 0 ↔ sameL (a.drop i) (b.drop i) = true) ∧ ∀ k, n < k → api_Attr_42.l0 k a b a (a.length : Int) (i : Int) = some c
 | 0, i, hn, hb => by
  rw [List.drop_of_length_le (show a.length ≤ i by omega)]
  refine ⟨if (a.length : Int) < (b.length : Int) then -1 else 0, ?_, fun k hk => ?_⟩
  ·
   by_cases h : (a.length : Int) < (b.length : Int)
   ·
    rw [if_pos h, drop_cons b i (by omega)]; simp [sameL]
   ·
    rw [if_neg h, List.drop_of_length_le (show b.length ≤ i by omega)]; simp [sameL]
  ·
   obtain ⟨k, rfl⟩ : ∃ j, k = j + 1 := ⟨k - 1, by omega⟩
   rw [api_Attr_42.l0, if_neg (by omega)]
   split <;> rfl
 | n + 1, i, hn, hb => by
  by_cases hib : i < b.length
  ·
   obtain ⟨c, hc, hk'⟩ := cmp_l0 a b ha n (i + 1) (by omega) (by omega)
   by_cases ht : cmpAttr (a[i]'(by omega)) (b[i]'hib) = 0
   ·
    refine ⟨c, ?_, fun k hk => ?_⟩
    ·
     rw [drop_cons a i (by omega), drop_cons b i hib, sameL, (cmpAttr_zero _ _).1 ht, Bool.true_and]; exact hc
    ·
     obtain ⟨k, rfl⟩ : ∃ j, k = j + 1 := ⟨k - 1, by omega⟩
     rw [api_Attr_42.l0, if_pos (by omega), if_pos (by omega), if_pos (by omega), if_neg (by omega), if_pos (by omega), rd_at a i (by omega), rd_at b i hib, attr_Cmp_1.f, Option.bind_some, if_pos ht, wrap_small (n := (i : Int) + 1) (by omega) (by omega)]
     exact hk' k (by omega)
   ·
    refine ⟨cmpAttr (a[i]'(by omega)) (b[i]'hib), ?_, fun k hk => ?_⟩
    ·
     rw [drop_cons a i (by omega), drop_cons b i hib, sameL, Bool.and_eq_true]
     exact ⟨fun e => absurd e ht, fun e => (cmpAttr_zero _ _).2 e.1⟩
    ·
     obtain ⟨k, rfl⟩ : ∃ j, k = j + 1 := ⟨k - 1, by omega⟩
     rw [api_Attr_42.l0, if_pos (by omega), if_pos (by omega), if_pos (by omega), if_neg (by omega), if_pos (by omega), rd_at a i (by omega), rd_at b i hib, attr_Cmp_1.f, Option.bind_some, if_neg ht]
  ·
   refine ⟨1, ?_, fun k hk => ?_⟩
   ·
    rw [drop_cons a i (by omega), List.drop_of_length_le (show b.length ≤ i by omega)]; simp [sameL]
   ·
    obtain ⟨k, rfl⟩ : ∃ j, k = j + 1 := ⟨k - 1, by omega⟩
    rw [api_Attr_42.l0, if_pos (by omega), if_pos (by omega), if_pos (by omega), if_pos (by omega)]
theorem cmp_ev (a b : List S45) (ha : a.length < 4398046511104) : ∃ c : Int, (c = 0 ↔ sameL a b = true) ∧ Ev (fun k => attr_Cmp.f k a b) c := by
 obtain ⟨c, h1, h2⟩ := cmp_l0 a b ha a.length 0 (by omega) (Nat.zero_le _)
 refine ⟨c, by simpa using h1, a.length + 1, fun k hk => ?_⟩
 dsimp only
 rw [attr_Cmp.f, api_Attr_42.f]
 have := h2 k (by omega)
 rw [show ((0 : Nat) : Int) = 0 from rfl] at this
 rw [this]; rfl
theorem sameL_symm : ∀ a b, sameL a b = sameL b a
 | [], [] => rfl
 | [], _ :: _ => rfl
 | _ :: _, [] => rfl
 | x :: a, y :: b => by
  rw [sameL, sameL, sameL_symm a b, eqB, eqB, BEq.comm (a := x.f0.data.toList), BEq.comm (a := x.f1.data.toList)]
def rightOf (l : List S45) : Int := if (setOf l).2 = 0 then (if sameL l (setOf l).1 = true then 0 else 3) else (setOf l).2
theorem right_ev (l : List S45) (hl : l.length < 4398046511104) : Ev (fun k => attr_Right.f k l) (rightOf l) := by
 unfold attr_Right.f rightOf
 refine Ev.bind (make_eq l) ?_
 by_cases h : (setOf l).2 = 0
 ·
  obtain ⟨c, hc, hE⟩ := cmp_ev l (setOf l).1 hl
  simp only [if_pos h]
  refine Ev.bind hE (Ev.const ?_)
  by_cases h0 : c = 0
  ·
   rw [if_pos h0, if_pos (hc.1 h0), h]
  ·
   rw [if_neg h0, if_neg (fun e => h0 (hc.2 e))]
 ·
  simp only [if_neg h]
  exact Ev.const rfl
theorem setOf_len (l : List S45) : (setOf l).1.length ≤ 16 := by
 unfold setOf
 split
 ·
  simp
 ·
  split
  ·
   simp
  ·
   split
   ·
    simp
   ·
    rw [(sorted45_perm l).2.1]; omega
theorem ref_right_ev (l : List S45) : Ev (fun k => belfryref04_Right.f k l) (rightOf l) := by
 unfold belfryref04_Right.f rightOf
 refine Ev.bind (ref_make_eq l) ?_
 have hlen := setOf_len l
 by_cases h : (setOf l).2 = 0
 ·
  simp only [if_pos h]
  refine Ev.bind (same_eq (setOf l).1 l (by omega)) (Ev.const ?_)
  rw [sameL_symm]
  by_cases h0 : sameL l (setOf l).1 = true
  ·
   rw [if_pos h0, if_pos h0, h]
  ·
   rw [if_neg h0, if_neg h0]
 ·
  simp only [if_neg h]
  exact Ev.const rfl
theorem spoil_ev : ∀ (n i : Nat) (m : List S45), m.length < 4398046511104 → i + n = m.length → ∃ v, ∀ k, n < k → belfrylaw04_spoil.l0 k m (i : Int) = some v
 | 0, i, m, hm, hn => ⟨m, fun k hk => by
  obtain ⟨k, rfl⟩ : ∃ j, k = j + 1 := ⟨k - 1, by omega⟩
  rw [belfrylaw04_spoil.l0, if_neg (by omega)]⟩
 | n + 1, i, m, hm, hn => by
  obtain ⟨v, hv⟩ := spoil_ev n (i + 1) (m.set ((i : Int)).toNat (⟨(⟨#[115, 112, 111, 105, 108, 116]⟩ : ByteArray), (⟨#[120]⟩ : ByteArray)⟩ : S45)) (by simpa using hm) (by simp; omega)
  refine ⟨v, fun k hk => ?_⟩
  obtain ⟨k, rfl⟩ : ∃ j, k = j + 1 := ⟨k - 1, by omega⟩
  rw [belfrylaw04_spoil.l0, if_pos (by omega), if_pos (by omega), wrap_small (n := (i : Int) + 1) (by omega) (by omega)]
  exact hv k (by omega)
set_option maxRecDepth 100000 in
theorem known_at : belfrylaw04_known.f 60 = some true := by kernel_rfl
theorem known_ev : Ev (fun k => belfrylaw04_known.f k) true := by
 refine ⟨60, fun k hk => ?_⟩
 induction k with
 | zero => omega
 | succ k ih =>
  by_cases h : 60 ≤ k
  ·
   exact belfrylaw04_known.mono k _ (ih h)
  ·
   have : k + 1 = 60 := by omega
   show belfrylaw04_known.f (k + 1) = _
   rw [this]; exact known_at
theorem sets_law (l : List S45) (s : ByteArray) (hl : l.length < 4398046511104) : Ev (fun k => belfrylaw04_AttrSets.f k l s) true := by
 unfold belfrylaw04_AttrSets.f
 have hlen := setOf_len l
 refine Ev.bind (v := l) (Ev.const (by rw [belfrylaw04_lent.f, if_pos (by simpa using hl)]; rfl)) ?_
 refine Ev.bind (make_eq l) (Ev.bind (ref_make_eq l) (Ev.bind (same_eq _ _ (by omega)) ?_))
 simp only [sameL_refl, if_true]
 refine Ev.bind (same_eq l l hl) ?_
 simp only [sameL_refl, if_true]
 refine Ev.bind (right_ev l hl) (Ev.bind (ref_right_ev l) ?_)
 rw [show (rightOf l != rightOf l) = false by simp]
 refine Ev.succ (g := fun k => (belfrylaw04_spoil.f k (setOf l).1).bind fun t311 => ((belfryref04_Same.f k l l).bind fun t312 => (if t312 = true then ((attr_Key.f k s).bind fun t313 => ((belfryref04_Key.f k s).bind fun t314 => (if (t313 == t314) = true then ((attr_Value.f s).bind fun t315 => ((belfryref04_Value.f k s).bind fun t316 => (if (t315 == t316) = true then ((belfrylaw04_known.f k).bind fun t317 => (some t317)) else (some false)))) else (some false)))) else (some false)))) ?_ (fun k => by rw [belfrylaw04_AttrSets.j0, if_neg (by simp)])
 obtain ⟨v, hv⟩ := spoil_ev (setOf l).1.length 0 (setOf l).1 (by omega) (by omega)
 refine Ev.bind (v := v) ⟨(setOf l).1.length + 1, fun k hk => by have := hv k (by omega); rw [show ((0 : Nat) : Int) = 0 from rfl] at this; exact this⟩ ?_
 refine Ev.bind (same_eq l l hl) ?_
 simp only [sameL_refl, if_true]
 refine Ev.bind (v := keyB s) ⟨67, fun k hk => key_eq s k (by omega)⟩ (Ev.bind (v := keyB s) ⟨67, fun k hk => ref_key_eq s k (by omega)⟩ ?_)
 simp only [beq_self_eq_true, if_true]
 refine Ev.bind (Ev.const (value_eq s)) (Ev.bind (ref_value_eq s) ?_)
 simp only [beq_self_eq_true, if_true]
 exact Ev.bind known_ev (Ev.const rfl)
end Go.Proofs.YtnfanpjfhdlddaaGreatDoor.Pr
