import Derived.Test.YtkedidjjhhjdbaaGreatDoorV0
import Derived.Test.YtkedidjjhhjdbaaGreatDoorV11
import Derived.Test.YtkedidjjhhjdbaaGreatDoorV14
import Derived.Test.YtkedidjjhhjdbaaGreatDoorV15
import Derived.Test.YtkedidjjhhjdbaaGreatDoorV16
import Derived.Test.YtkedidjjhhjdbaaGreatDoorV17
import Derived.Test.YtkedidjjhhjdbaaGreatDoorV12
import Derived.Test.YtkedidjjhhjdbaaGreatDoorV18
import Derived.Test.YtkedidjjhhjdbaaGreatDoorV5
import Derived.Test.YtkedidjjhhjdbaaGreatDoorProg
import Derived.Tactics
import Derived.Tactics2
import Derived.Defers
import Derived.Laws.Pointers
import Derived.Laws.LoneSync
import Derived.RegionTactic
import Derived.RegionCalls
import Derived.ChangeAlike
import Derived.Lib.Hide
import Derived.Test.YtkedidjjhhjdbaaGreatDoorV1
import Derived.Laws.NewBlocks
section
set_option linter.unusedVariables false
set_option linter.unusedSimpArgs false
namespace Go.Proofs.YtkedidjjhhjdbaaGreatDoor.Pr
open Go.RowKit Go.Proofs.YtkedidjjhhjdbaaGreatDoorW.PrintWords Go.Proofs.YtkedidjjhhjdbaaGreatDoorW.PrintLast Go.Proofs.YtkedidjjhhjdbaaGreatDoorW.PrintMore
theorem rd_at46 (l : List S46) (i : Nat) (h : i < l.length) : rd_T46 l (i : Int) = l[i] := by simp [rd_T46, h]
theorem rd_at31 (l : List S31) (i : Nat) (h : i < l.length) : rd_T31 l (i : Int) = l[i] := by simp [rd_T31, h]
def fitsB (v : ByteArray) (kd : Int) (r : S46) : Bool := decide (rightL r.f0 r.f1 r.f2 r.f3 r.f4 = 0 ∧ (r.f2.toList = ([42] : List UInt8) ∨ r.f2.toList = v.toList) ∧ (r.f1 = 0 ∨ r.f1 = kd))
theorem fitsF_ev (v : ByteArray) (kd : Int) (r : S46) : Ev (fun k => fitsF k v kd r) (fitsB v kd r) := by
 unfold fitsF fitsB
 exact Ev.bind (right_ev r.f0 r.f1 r.f2 r.f3 r.f4) (Ev.const rfl)
theorem ref_fits_ev (v : ByteArray) (kd : Int) (r : S46) : Ev (fun k => belfryref11_fits.f k r.f0 r.f1 r.f2 r.f3 r.f4 v kd) (fitsB v kd r) := by
 unfold belfryref11_fits.f fitsB
 refine Ev.bind (ref_right_ev r.f0 r.f1 r.f2 r.f3 r.f4) (Ev.const ?_)
 generalize rightL r.f0 r.f1 r.f2 r.f3 r.f4 = rr
 by_cases h0 : rr = 0 <;> by_cases h1 : r.f2.toList = ([42] : List UInt8) <;> by_cases h2 : r.f2.toList = v.toList <;> by_cases h3 : r.f1 = 0 <;> by_cases h4 : r.f1 = kd <;> simp [*]
theorem pickF_ev (v : ByteArray) (kd : Int) : ∀ l : List S46, Ev (fun k => pickF k v kd l) (l.filter (fitsB v kd))
 | [] => Ev.const rfl
 | r :: l => by
  unfold pickF
  refine Ev.bind (fitsF_ev v kd r) (Ev.bind (pickF_ev v kd l) (Ev.const ?_))
  rw [List.filter_cons]
def otherM (m : S33) : S33 := ⟨rd [0, 2, 1, 4, 3] m.f0, m.f1, m.f2⟩
def denL : List S46 → List S33 × Bool
  | [] => ([], false)
  | r :: l => match r.f3 with
    | [] => ((denL l).1, true)
    | m :: _ => (otherM m :: (denL l).1, (denL l).2)
def opsOk (r : S46) : Prop := ∀ m ∈ r.f3, 1 ≤ m.f0 ∧ m.f0 ≤ 4
theorem wrongL_ops : ∀ l : List S33, wrongL l = 0 → ∀ m ∈ l, 1 ≤ m.f0 ∧ m.f0 ≤ 4
 | [], _, m, h => by cases h
 | x :: l, h, m, hm => by
  rw [wrongL] at h; by_cases h1 : x.f0 < 1 ∨ 4 < x.f0
  · rw [if_pos h1] at h; cases h
  rw [if_neg h1] at h
  cases hk : keyB x.f1 with
  | false => rw [hk] at h; simp at h
  | true =>
   cases hp : plainB x.f2 with
   | false => rw [hk, hp] at h; simp at h
   | true =>
    rw [hk, hp] at h
    rcases List.mem_cons.1 hm with rfl | hm
    · omega
    exact wrongL_ops l (by simpa using h) m hm
theorem rightL_zero {d : Bool} {kd : Int} {tn : ByteArray} {sc : List S33} {h : List ByteArray} (e : rightL d kd tn sc h = 0) : sc.length ≤ 8 ∧ (∀ m ∈ sc, 1 ≤ m.f0 ∧ m.f0 ≤ 4) ∧ h.length ≤ 16 := by
 unfold rightL at e
 by_cases h1 : kd < 0 ∨ 3 < kd
 · rw [if_pos h1] at e; cases e
 rw [if_neg h1] at e; by_cases h2 : tn.toList = ([42] : List UInt8) ∨ nameB tn = true; rotate_left
 · rw [if_neg h2] at e; cases e
 rw [if_pos h2] at e; by_cases h3 : rightM sc = 0; rotate_left
 · rw [if_neg h3] at e; exact absurd e h3
 rw [if_pos h3] at e
 have h8 : sc.length ≤ 8 ∧ wrongL sc = 0 := by
  unfold rightM at h3
  by_cases h8 : (sc.length : Int) > 8
  · rw [if_pos h8] at h3; cases h3
  rw [if_neg h8] at h3; exact ⟨by omega, h3⟩
 refine ⟨h8.1, wrongL_ops sc h8.2, ?_⟩
 by_cases h4 : d = true ∧ ((sc.length : Int) > 1 ∨ (h.length : Int) > 0)
 · rw [if_pos h4] at e; cases e
 rw [if_neg h4] at e
 unfold hidL at e
 by_cases h5 : (h.length : Int) > 16; rotate_left
 · omega
 rw [if_pos h5] at e; cases e
theorem fitsB_ok {v : ByteArray} {kd : Int} {r : S46} (h : fitsB v kd r = true) : r.f3.length ≤ 8 ∧ opsOk r ∧ r.f4.length ≤ 16 := by
 unfold fitsB at h
 exact rightL_zero (of_decide_eq_true h).1
theorem other_eq (m : S33) (h : 1 ≤ m.f0 ∧ m.f0 ≤ 4) : policy_other.f m.f0 m.f1 m.f2 = some ((otherM m).f0, (otherM m).f1, (otherM m).f2) := by
 have : m.f0 = 1 ∨ m.f0 = 2 ∨ m.f0 = 3 ∨ m.f0 = 4 := by omega
 unfold policy_other.f otherM
 simp only
 rcases this with e | e | e | e <;> rw [e] <;> simp [rd]
theorem ref_other_eq (m : S33) (h : 1 ≤ m.f0 ∧ m.f0 ≤ 4) : belfryref11_Other.f m.f0 m.f1 m.f2 = some ((otherM m).f0, (otherM m).f1, (otherM m).f2) := by
 unfold belfryref11_Other.f otherM
 rw [Option.bind_some, if_pos (by omega), if_pos (by show m.f0 < 5; omega)]
theorem denF_eq : ∀ l : List S46, (∀ r ∈ l, opsOk r) → denF l = some (denL l)
 | [], _ => rfl
 | r :: l, h => by
  rw [denF, denF_eq l (fun x hx => h x (List.mem_cons_of_mem _ hx)), Option.bind_some, denL]
  have hr := h r (List.mem_cons_self ..)
  unfold opsOk at hr
  cases e : r.f3 with
  | nil => rfl
  | cons m t =>
   simp only
   rw [other_eq m (hr m (by rw [e]; exact List.mem_cons_self ..)), Option.bind_some]
theorem denL_len : ∀ l : List S46, (denL l).1.length ≤ l.length
 | [] => Nat.le_refl _
 | r :: l => by
  have := denL_len l
  rw [denL]
  cases r.f3 with
  | nil => simp only [List.length_cons]; omega
  | cons m t => simp only [List.length_cons]; omega
def viewsL (o : ByteArray) (nt : List S33) : List S46 → List S31
  | [] => []
  | r :: l => if (bothL r.f3 nt).2 = 0 then (⟨o, (bothL r.f3 nt).1, r.f4⟩ : S31) :: viewsL o nt l else viewsL o nt l
theorem viewsF_ev (o : ByteArray) (nt : List S33) (hn : nt.length ≤ 200) : ∀ l : List S46, (∀ r ∈ l, r.f3.length ≤ 8 ∧ r.f4.length ≤ 16) → Ev (fun k => viewsF k o nt l) (viewsL o nt l)
 | [], _ => Ev.const rfl
 | r :: l, h => by
  have hr := h r (List.mem_cons_self ..)
  unfold viewsF viewsL
  refine Ev.bind (both_ev r.f3 nt (by omega)) (Ev.bind (viewsF_ev o nt hn l (fun x hx => h x (List.mem_cons_of_mem _ hx))) (Ev.const ?_))
  by_cases h0 : (bothL r.f3 nt).2 = 0; rotate_left
  · rw [if_neg h0, if_neg h0]
  rw [if_pos h0, if_pos h0]
  unfold slices_Clone_Str.f
  rw [if_pos (by omega), Option.bind_some]
def viewsR (l : List S46) (o v : ByteArray) (kd : Int) : List S31 :=
  if kd < 1 ∨ kd > 3 then [] else if v.toList = o.toList then [(⟨o, [], []⟩ : S31)] else
    if (denL ((l.filter (fitsB v kd)).filter (fun r => r.f0))).2 = true then [] else viewsL o (denL ((l.filter (fitsB v kd)).filter (fun r => r.f0))).1 ((l.filter (fitsB v kd)).filter (fun r => !r.f0))
theorem views_ev (l : List S46) (o v : ByteArray) (kd : Int) (hl : l.length ≤ 200) : Ev (fun k => policy_Views.f k l o v kd) (viewsR l o v kd) := by
 unfold policy_Views.f viewsR
 simp only [if_pos (show l.length < 1048576 by omega)]
 by_cases h1 : kd < 1 ∨ kd > 3
 · simp only [if_pos h1]; exact Ev.const rfl
 simp only [if_neg h1]; by_cases h2 : v.toList = o.toList
 · simp only [if_pos h2]; exact Ev.const rfl
 simp only [if_neg h2]
 have hok : ∀ r ∈ l.filter (fitsB v kd), r.f3.length ≤ 8 ∧ opsOk r ∧ r.f4.length ≤ 16 := fun r hr => fitsB_ok (List.mem_filter.1 hr).2
 refine Ev.bind (pickF_ev v kd l) ?_
 rw [denF_eq _ (fun r hr => (hok r (List.mem_filter.1 hr).1).2.1)]
 simp only [Option.bind_some]
 have hlen : (denL ((l.filter (fitsB v kd)).filter (fun r => r.f0))).1.length ≤ 200 := by
  refine Nat.le_trans (denL_len _) (Nat.le_trans (List.length_filter_le _ _) (Nat.le_trans (List.length_filter_le _ _) hl))
 cases (denL ((l.filter (fitsB v kd)).filter (fun r => r.f0))).2 with
 | true => exact Ev.const rfl
 | false =>
  simp only [Bool.false_eq_true, if_false]
  exact viewsF_ev o _ hlen _ (fun r hr => ⟨(hok r (List.mem_filter.1 hr).1).1, (hok r (List.mem_filter.1 hr).1).2.2⟩)
section
variable (l : List S46) (o v : ByteArray) (kd : Int)
theorem ref_views_l1 (hl : l.length ≤ 200) (nt : List S33) (hn : nt.length ≤ 200) : ∀ (n i : Nat), i + n = l.length → ∀ out : List S31, out.length ≤ i → Ev (fun k => belfryref11_Views.l1 k l o v kd nt out (i : Int)) (out ++ viewsL o nt (((l.drop i).filter (fitsB v kd)).filter (fun r => !r.f0)))
 | 0, i, hi, out, ho => by
  rw [List.drop_of_length_le (show l.length ≤ i by omega)]
  exact Ev.succ (g := fun _ => some out) (Ev.const (by show some out = some (out ++ []); rw [List.append_nil])) (fun k => by rw [belfryref11_Views.l1, if_neg (by omega)])
 | n + 1, i, hin, out, ho => by
  have hi : i < l.length := by omega
  have ih := ref_views_l1 hl nt hn n (i + 1) (by omega)
  refine Ev.succ (g := fun k => if l[i].f0 = true then (belfryref11_Views.j4 k l o v kd nt out (i : Int) true) else ((belfryref11_fits.f k l[i].f0 l[i].f1 l[i].f2 l[i].f3 l[i].f4 v kd).bind fun t332 => (belfryref11_Views.j4 k l o v kd nt out (i : Int) (!t332)))) ?_ (fun k => by rw [belfryref11_Views.l1, if_pos (by omega), if_pos (by omega), rd_at46 l i hi])
  have hskip : Ev (fun k => belfryref11_Views.j4 k l o v kd nt out (i : Int) true) (out ++ viewsL o nt (((l.drop (i + 1)).filter (fitsB v kd)).filter (fun r => !r.f0))) :=
   Ev.succ (ih out (by omega)) (fun k => by rw [belfryref11_Views.j4, if_pos rfl, wrap_small (n := (i : Int) + 1) (by omega) (by omega), show (i : Int) + 1 = ((i + 1 : Nat) : Int) by omega])
  rw [drop_cons33 l i hi, List.filter_cons]
  cases hd : l[i].f0 with
  | true =>
   simp only [if_true]
   have e : (if fitsB v kd l[i] = true then l[i] :: (l.drop (i + 1)).filter (fitsB v kd) else (l.drop (i + 1)).filter (fitsB v kd)).filter (fun r => !r.f0) = ((l.drop (i + 1)).filter (fitsB v kd)).filter (fun r => !r.f0) := by
    split
    rotate_left
    · rfl
    rw [List.filter_cons, hd]; rfl
   rw [e]; exact hskip
  | false =>
   simp only [Bool.false_eq_true, if_false]; have hf := ref_fits_ev v kd l[i]; rw [hd] at hf
   refine Ev.bind hf ?_
   cases hb : fitsB v kd l[i] with
   | false => simp only [Bool.not_false, Bool.false_eq_true, if_false]; exact hskip
   | true =>
    simp only [Bool.not_true, if_true]; have hok := fitsB_ok hb; rw [List.filter_cons, hd]; simp only [Bool.not_false, if_true]; rw [viewsL]
    refine Ev.succ (g := fun k => (belfryref04_Both.f k l[i].f3 nt).bind fun bt334 => (if bt334.2 = 0 then (belfryref11_Views.l1 k l o v kd nt (out ++ [(⟨o, bt334.1, l[i].f4⟩ : S31)]) ((i + 1 : Nat) : Int)) else (belfryref11_Views.l1 k l o v kd nt out ((i + 1 : Nat) : Int)))) ?_ (fun k => by
     rw [belfryref11_Views.j4, if_neg (by simp), if_pos (by omega), if_pos (by omega), rd_at46 l i hi]
     simp only [List.nil_append, List.length_nil, Nat.zero_add, if_pos (show l[i].f4.length < 8796093022208 by omega), if_pos (show out.length < 2199023255552 by omega)]
     rw [wrap_small (n := (i : Int) + 1) (by omega) (by omega), show (i : Int) + 1 = ((i + 1 : Nat) : Int) by omega])
    refine Ev.bind (ref_both_ev l[i].f3 nt (by omega)) ?_
    by_cases h0 : (bothL l[i].f3 nt).2 = 0; rotate_left
    ·
     simp only [if_neg h0]
     exact ih out (by omega)
    simp only [if_pos h0]
    have := ih (out ++ [(⟨o, (bothL l[i].f3 nt).1, l[i].f4⟩ : S31)]) (by simp; omega)
    rw [List.append_assoc] at this; exact this
theorem ref_views_l0 (hl : l.length ≤ 200) : ∀ (n i : Nat), i + n = l.length → ∀ nt : List S33, nt.length ≤ i →
  Ev (fun k => belfryref11_Views.l0 k l o v kd nt (i : Int)) (if (denL (((l.drop i).filter (fitsB v kd)).filter (fun r => r.f0))).2 = true then [] else viewsL o (nt ++ (denL (((l.drop i).filter (fitsB v kd)).filter (fun r => r.f0))).1) ((l.filter (fitsB v kd)).filter (fun r => !r.f0)))
 | 0, i, hin, nt, hnt => by
  rw [List.drop_of_length_le (show l.length ≤ i by omega)]
  have := ref_views_l1 l o v kd hl nt (by omega) l.length 0 (by omega) [] (by simp)
  rw [List.drop_zero, List.nil_append] at this; simp only [List.filter_nil, denL, Bool.false_eq_true, if_false, List.append_nil]
  exact Ev.succ this (fun k => by rw [belfryref11_Views.l0, if_neg (by omega)]; rfl)
 | n + 1, i, hin, nt, hnt => by
  have hi : i < l.length := by omega
  have ih := ref_views_l0 hl n (i + 1) (by omega)
  refine Ev.succ (g := fun k => if l[i].f0 = true then ((belfryref11_fits.f k l[i].f0 l[i].f1 l[i].f2 l[i].f3 l[i].f4 v kd).bind fun t320 => (belfryref11_Views.j2 k l o v kd nt (i : Int) t320)) else (belfryref11_Views.j2 k l o v kd nt (i : Int) false)) ?_ (fun k => by rw [belfryref11_Views.l0, if_pos (by omega), if_pos (by omega), rd_at46 l i hi])
  have hskip := Ev.succ (f := fun k => belfryref11_Views.j2 k l o v kd nt (i : Int) false) (ih nt (by omega)) (fun k => by rw [belfryref11_Views.j2, if_neg (by simp), wrap_small (n := (i : Int) + 1) (by omega) (by omega), show (i : Int) + 1 = ((i + 1 : Nat) : Int) by omega])
  rw [drop_cons33 l i hi, List.filter_cons]
  cases hd : l[i].f0 with
  | false =>
   simp only [Bool.false_eq_true, if_false]
   have e : (if fitsB v kd l[i] = true then l[i] :: (l.drop (i + 1)).filter (fitsB v kd) else (l.drop (i + 1)).filter (fitsB v kd)).filter (fun r => r.f0) = ((l.drop (i + 1)).filter (fitsB v kd)).filter (fun r => r.f0) := by
    split
    rotate_left
    · rfl
    rw [List.filter_cons, hd]; rfl
   rw [e]; exact hskip
  | true =>
   simp only [if_true]; have hf := ref_fits_ev v kd l[i]; rw [hd] at hf
   refine Ev.bind hf ?_
   cases hb : fitsB v kd l[i] with
   | false => simp only [Bool.false_eq_true, if_false]; exact hskip
   | true =>
    simp only [if_true]; have hok := fitsB_ok hb; rw [List.filter_cons, hd]; simp only [if_true]; rw [denL]
    cases hsc : l[i].f3 with
    | nil =>
     simp only [if_true]
     exact Ev.succ (g := fun _ => some []) (Ev.const rfl) (fun k => by
      rw [belfryref11_Views.j2, if_pos rfl, if_pos (by omega), if_pos (by omega), rd_at46 l i hi, hsc]; exact if_pos rfl)
    | cons m t =>
     simp only
     have hm : 1 ≤ m.f0 ∧ m.f0 ≤ 4 := hok.2.1 m (by rw [hsc]; exact List.mem_cons_self ..)
     have := ih (nt ++ [otherM m]) (by simp; omega)
     rw [List.append_assoc] at this
     refine Ev.succ this (fun k => ?_)
     rw [belfryref11_Views.j2, if_pos rfl, if_pos (by omega), if_pos (by omega), rd_at46 l i hi, hsc]
     have e0 : rd_T33 (m :: t) 0 = m := rfl
     rw [if_neg (by simp only [List.length_cons]; omega), if_pos (by simp only [List.length_cons]; omega), e0, ref_other_eq m hm, Option.bind_some, if_pos (by omega), wrap_small (n := (i : Int) + 1) (by omega) (by omega), show (i : Int) + 1 = ((i + 1 : Nat) : Int) by omega]
theorem ref_views_ev (hl : l.length ≤ 200) : Ev (fun k => belfryref11_Views.f k l o v kd) (viewsR l o v kd) := by
 unfold belfryref11_Views.f viewsR
 refine Ev.of_eq (g := fun k => belfryref11_Views.j0 k l o v kd (decide (kd < 1 ∨ kd > 3))) ?_ (fun k => by
  by_cases h1 : kd < 1
  · rw [if_pos h1, decide_eq_true (Or.inl h1)]
  rw [if_neg h1]; congr 1; simp [h1])
 by_cases h1 : kd < 1 ∨ kd > 3
 ·
  rw [decide_eq_true h1, if_pos h1]
  exact Ev.succ (g := fun _ => some []) (Ev.const rfl) (fun k => by rw [belfryref11_Views.j0, if_pos rfl])
 rw [decide_eq_false h1, if_neg h1]; by_cases h2 : v.toList = o.toList
 ·
  rw [if_pos h2]
  exact Ev.succ (g := fun _ => some [(⟨o, [], []⟩ : S31)]) (Ev.const rfl) (fun k => by rw [belfryref11_Views.j0, if_neg (by simp), if_pos h2])
 rw [if_neg h2]
 have := ref_views_l0 l o v kd hl l.length 0 (by omega) [] (by simp)
 rw [List.drop_zero, List.nil_append] at this
 exact Ev.succ this (fun k => by rw [belfryref11_Views.j0, if_neg (by simp), if_neg h2]; rfl)
end
theorem lent_l0 (l : List S46) (hl : l.length ≤ 200) (hs : ∀ x ∈ l, x.f3.length < 3518437208883 ∧ x.f4.length < 8796093022208) : ∀ (n i : Nat), i + n = l.length → Ev (fun k => belfryref11_Lent.l0 k l (l.take i) (i : Int)) l
 | 0, i, hin => by
  rw [List.take_of_length_le (show l.length ≤ i by omega)]
  exact Ev.succ (g := fun _ => some l) (Ev.const rfl) (fun k => by rw [belfryref11_Lent.l0, if_neg (by omega)])
 | n + 1, i, hin => by
  have hi : i < l.length := by omega
  have hx := hs l[i] (List.getElem_mem hi)
  refine Ev.succ (lent_l0 l hl hs n (i + 1) (by omega)) (fun k => ?_)
  rw [belfryref11_Lent.l0, if_pos (by omega), if_pos (by omega), rd_at46 l i hi]; simp only [List.nil_append, List.length_nil, Nat.zero_add, List.length_take]
  rw [if_pos hx.1, if_pos hx.2, if_pos (by omega), wrap_small (n := (i : Int) + 1) (by omega) (by omega), show (i : Int) + 1 = ((i + 1 : Nat) : Int) by omega, List.take_succ_eq_append_getElem hi]
theorem lent_ev (l : List S46) (hl : l.length ≤ 200) (hs : ∀ x ∈ l, x.f3.length < 3518437208883 ∧ x.f4.length < 8796093022208) : Ev (fun k => belfryref11_Lent.f k l) l := lent_l0 l hl hs l.length 0 (by omega)
theorem sameMatch_refl (m : List S33) (hm : m.length < 4611686018427387904) : Ev (fun k => belfryref04_SameMatch.f k m m) true := by
 unfold belfryref04_SameMatch.f
 simp only [if_true]
 have : ∀ (n i : Nat), i + n = m.length → Ev (fun k => belfryref04_SameMatch.l0 k m m (i : Int)) true := by
  intro n
  induction n with
  | zero => intro i hin; exact Ev.succ (g := fun _ => some true) (Ev.const rfl) (fun k => by rw [belfryref04_SameMatch.l0, if_neg (by omega)])
  | succ n ih =>
   intro i hin
   exact Ev.succ (ih (i + 1) (by omega)) (fun k => by
    rw [belfryref04_SameMatch.l0, if_pos (by omega), if_pos (by omega), if_pos (by omega), if_neg (by simp), wrap_small (n := (i : Int) + 1) (by omega) (by omega), show (i : Int) + 1 = ((i + 1 : Nat) : Int) by omega])
 exact this m.length 0 (by omega)
theorem texts_refl (m : List ByteArray) (hm : m.length < 4611686018427387904) : Ev (fun k => belfryref11_texts.f k m m) true := by
 unfold belfryref11_texts.f
 simp only [if_true]
 have : ∀ (n i : Nat), i + n = m.length → Ev (fun k => belfryref11_texts.l0 k m m (i : Int)) true := by
  intro n
  induction n with
  | zero => intro i hin; exact Ev.succ (g := fun _ => some true) (Ev.const rfl) (fun k => by rw [belfryref11_texts.l0, if_neg (by omega)])
  | succ n ih =>
   intro i hin
   exact Ev.succ (ih (i + 1) (by omega)) (fun k => by
    rw [belfryref11_texts.l0, if_pos (by omega), if_pos (by omega), if_pos (by omega), if_pos rfl, wrap_small (n := (i : Int) + 1) (by omega) (by omega), show (i : Int) + 1 = ((i + 1 : Nat) : Int) by omega])
 exact this m.length 0 (by omega)
theorem sameViews_refl (r : List S31) (hr : r.length < 4611686018427387904) (hs : ∀ x ∈ r, x.f1.length < 4611686018427387904 ∧ x.f2.length < 4611686018427387904) : Ev (fun k => belfryref11_SameViews.f k r r) true := by
 unfold belfryref11_SameViews.f
 simp only [if_true]
 have : ∀ (n i : Nat), i + n = r.length → Ev (fun k => belfryref11_SameViews.l0 k r r (i : Int)) true := by
  intro n
  induction n with
  | zero => intro i hin; exact Ev.succ (g := fun _ => some true) (Ev.const rfl) (fun k => by rw [belfryref11_SameViews.l0, if_neg (by omega)])
  | succ n ih =>
   intro i hin
   have hi : i < r.length := by omega
   have hx := hs r[i] (List.getElem_mem hi)
   refine Ev.succ (g := fun k => (belfryref04_SameMatch.f k r[i].f1 r[i].f1).bind fun t238 => (if t238 = true then ((belfryref11_texts.f k r[i].f2 r[i].f2).bind fun t241 => (if t241 = true then (belfryref11_SameViews.l0 k r r ((i + 1 : Nat) : Int)) else (some false))) else (some false))) ?_ (fun k => by
    rw [belfryref11_SameViews.l0, if_pos (by omega), if_pos (by omega), if_pos (by omega), if_pos rfl, rd_at31 r i hi, wrap_small (n := (i : Int) + 1) (by omega) (by omega), show (i : Int) + 1 = ((i + 1 : Nat) : Int) by omega])
   refine Ev.bind (sameMatch_refl _ hx.1) ?_
   simp only [if_true]
   refine Ev.bind (texts_refl _ hx.2) ?_
   simp only [if_true]
   exact ih (i + 1) (by omega)
 exact this r.length 0 (by omega)
theorem bothL_len (a b : List S33) : (bothL a b).1.length ≤ 8 := by
 unfold bothL
 split
 · simp
 split
 rotate_left
 · simp
 simp only; omega
theorem viewsL_small (o : ByteArray) (nt : List S33) : ∀ l : List S46, (∀ r ∈ l, r.f4.length ≤ 16) → (viewsL o nt l).length ≤ l.length ∧ ∀ x ∈ viewsL o nt l, x.f1.length ≤ 8 ∧ x.f2.length ≤ 16
 | [], _ => ⟨Nat.le_refl _, fun x h => by cases h⟩
 | r :: l, h => by
  obtain ⟨h1, h2⟩ := viewsL_small o nt l (fun x hx => h x (List.mem_cons_of_mem _ hx))
  rw [viewsL]
  split
  rotate_left
  · exact ⟨by simp; omega, h2⟩
  refine ⟨by simp; omega, fun x hx => ?_⟩
  rcases List.mem_cons.1 hx with rfl | hx
  rotate_left
  · exact h2 x hx
  exact ⟨bothL_len _ _, h r (List.mem_cons_self ..)⟩
theorem viewsR_small (l : List S46) (o v : ByteArray) (kd : Int) : (viewsR l o v kd).length ≤ l.length + 1 ∧ ∀ x ∈ viewsR l o v kd, x.f1.length ≤ 8 ∧ x.f2.length ≤ 16 := by
 unfold viewsR
 split
 · exact ⟨by simp, fun x h => by cases h⟩
 split
 ·
  refine ⟨by simp, fun x h => ?_⟩
  rw [List.mem_singleton.1 h]; exact ⟨by simp, by simp⟩
 split
 · exact ⟨by simp, fun x h => by cases h⟩
 have := viewsL_small o (denL ((l.filter (fitsB v kd)).filter (fun r => r.f0))).1 ((l.filter (fitsB v kd)).filter (fun r => !r.f0)) (fun r hr => (fitsB_ok (List.mem_filter.1 (List.mem_filter.1 hr).1).2).2.2)
 refine ⟨?_, this.2⟩
 have h1 := List.length_filter_le (fun r : S46 => !r.f0) (l.filter (fitsB v kd))
 have h2 := List.length_filter_le (fitsB v kd) l; omega
end Go.Proofs.YtkedidjjhhjdbaaGreatDoor.Pr
end
section
set_option linter.unusedVariables false
set_option linter.unusedSimpArgs false
namespace Go.Proofs.YtkedidjjhhjdbaaGreatDoor.Pr
open Go.RowKit Go.Proofs.YtkedidjjhhjdbaaGreatDoorW.PrintWords Go.Proofs.YtkedidjjhhjdbaaGreatDoorW.PrintLast Go.Proofs.YtkedidjjhhjdbaaGreatDoorW.PrintMore
def strings_Split.f (a0 a1 : ByteArray) : Option (List ByteArray) := if a0.size < 4294967281 ∧ 1 ≤ a1.size then some (Lib.splitB a1 0 (Lib.countB a0 a1) a0) else none
theorem strings_Split.calls (a0 a1 : ByteArray) (r : List ByteArray) (w : World) (h : strings_Split.f a0 a1 = some r)
  (he_ : EnvW w := by repeat (first | with_reducible assumption | with_reducible exact env_of (by with_reducible assumption) (by with_reducible assumption) | with_reducible exact env_out (by with_reducible assumption) | with_reducible apply env_alloc | with_reducible apply env_drewN | with_reducible apply env_drew | with_reducible refine env_set ?_ (by with_reducible assumption) (by with_reducible assumption))) :
  Calls Tryz.prog 41 #[.string a0, .string a1] w fun e w' => ∃ v0_ : Value, e = .returned (v0_) ∧ Kd.R Kd.string 9 w' w.heap.size (fun _ => True) v0_ r ∧ Below w.heap.size w w' := by
 unfold strings_Split.f at h
 by_cases hs : a0.size < 4294967281 ∧ 1 ≤ a1.size; rotate_left
 · rw [if_neg hs] at h; cases h
 rw [if_pos hs] at h
 obtain rfl := Option.some.inj h
 obtain ⟨_, m, hm⟩ := he_
 refine (Tryz.strings_Split a0 a1 m w hs.1 hm hs.2).mono ?_
 rintro e w' ⟨rfl, rfl⟩
 have hl := Lib.splitB_all a1 hs.2 0 (Lib.countB a0 a1) a0 rfl
 have hk : Lib.countB a0 a1 + 1 ≤ 9223372036854775807 := by
  have := Lib.countB_le a1 hs.2 a0.size a0 (Nat.le_refl _)
  omega
 refine ⟨_, rfl, flatStr.R' (fun _ _ => trivial) ?_, (Below.refl _ _).alloc (Nat.le_refl _) _⟩
 rw [hl, strs_flat]
 refine ⟨by simp [hl, Kd.string, Kd.scalar], .inr ⟨w.heap.size, Lib.countB a0 a1 + 1, _, rfl, Nat.le_refl _, blk_new _ _, Nat.le_refl _, by unfold maxLen; exact hk, by simp [hl, Kd.string, Kd.scalar], ?_⟩⟩
 rw [List.take_of_length_le (by simp [hl, Kd.string, Kd.scalar])]
end Go.Proofs.YtkedidjjhhjdbaaGreatDoor.Pr
end
section
set_option linter.unusedVariables false
set_option linter.unusedSimpArgs false
namespace Go.Proofs.YtkedidjjhhjdbaaGreatDoor.Pr
open Go.RowKit Go.Proofs.YtkedidjjhhjdbaaGreatDoorW.PrintWords Go.Proofs.YtkedidjjhhjdbaaGreatDoorW.PrintLast Go.Proofs.YtkedidjjhhjdbaaGreatDoorW.PrintMore
def nextW (s : ByteArray) : ByteArray := ⟨(Lib.cut s.data.toList [32]).1.toArray⟩
def restW (s : ByteArray) : ByteArray := ⟨(Lib.cut s.data.toList [32]).2.1.toArray⟩
abbrev TxBox (g : Nat) (s : ByteArray) (W : World) : Prop := W.heap[g]? = some (.cells #[.string s] 9 (0, 0))
theorem TxBox.set {g : Nat} {s : ByteArray} {W : World} (h : TxBox g s W) (t : ByteArray) : TxBox g t (W.setCell ⟨g, 0, none⟩ (.string t)) := blk_set h 0 _
set_option maxRecDepth 100000 in
theorem next_walk (g : Nat) (s : ByteArray) (w : World) (hb : TxBox g s w) (hs : s.size < 4294967281) (he : EnvW w) :
  Calls Tryz.prog 74 #[.pointer (some ⟨g, 0, none⟩)] w fun e w' => e = .returned (.string (nextW s)) ∧ ∃ n, w' = (w.drewN n).setCell ⟨g, 0, none⟩ (.string (restW s)) := by
 have hx := blk_cell hb 0; have hf := blk_frozen hb 0
 obtain ⟨_, m, hm⟩ := he
 go_enter Tryz.func74, Tryz.ntmps74
 go_wp2_with fail
 refine (Tryz.strings_Cut s ⟨#[32]⟩ m w hs hm).mono ?_
 rintro e w1 ⟨rfl, n, rfl⟩
 go_wp2; go_ret
 exact ⟨rfl, n, rfl⟩
end Go.Proofs.YtkedidjjhhjdbaaGreatDoor.Pr
end
section
namespace Go.Proofs.YtkedidjjhhjdbaaGreatDoor.Pr
open Go.RowKit Go.Proofs.YtkedidjjhhjdbaaGreatDoorW.PrintWords Go.Proofs.YtkedidjjhhjdbaaGreatDoorW.PrintLast Go.Proofs.YtkedidjjhhjdbaaGreatDoorW.PrintMore
attribute [local go_sem] max2_int min2_int max_two min_two max_three min_three max_four min_four strGtr strLeq strGeq
set_option linter.unusedVariables false
set_option linter.unusedSimpArgs false
def stringslite_HasPrefix.f (a0 : ByteArray) (a1 : ByteArray) : Option (Bool) := if (a0.size : Int) ≥ (a1.size : Int) then (if 0 ≤ (a1.size : Int) then (if (a1.size : Int) ≤ (a0.size : Int) then (some ((a0.extract 0 ((a1.size : Int) : Int).toNat).toList == a1.toList)) else (none)) else (none)) else (some false)
set_option maxHeartbeats 8000000 in
set_option maxRecDepth 100000 in
theorem stringslite_HasPrefix.calls (a0 : ByteArray) (a1 : ByteArray) (r : Bool) (w : World) (h : stringslite_HasPrefix.f a0 a1 = some r) :
  Calls Tryz.prog 138 #[.string a0, .string a1] w fun e w' => e = .returned (.bool r) ∧ Drawn0 w w' := by
 have H : (if (a0.size : Int) ≥ (a1.size : Int) then (if 0 ≤ (a1.size : Int) then (if (a1.size : Int) ≤ (a0.size : Int) then (some ((a0.extract 0 ((a1.size : Int) : Int).toNat).toList == a1.toList)) else (none)) else (none)) else (some false)) = some r := h
 clear h; by_cases c3 : (a0.size : Int) ≥ (a1.size : Int); rotate_left
 ·
  rw [if_neg c3] at H
  have c3b0 : decide ((a1.size : Int) ≤ (a0.size : Int)) = false := decide_eq_false c3
  have c3b1 : decide (a1.size ≤ a0.size) = false := decide_eq_false (fun h => c3 (Int.ofNat_le.mpr h))
  clear c3
  obtain rfl := Option.some.inj H
  go_enter Tryz.func138, Tryz.ntmps138
  go_wp2; go_ret
  exact ⟨by first | rfl | (simp; done) | (simp [*]; done), by repeat (first | exact Drawn0.refl _ | apply Drawn0.step)⟩
 rw [if_pos c3] at H
 have c3b0 : decide ((a1.size : Int) ≤ (a0.size : Int)) = true := decide_eq_true c3
 have c3b1 : decide (a1.size ≤ a0.size) = true := decide_eq_true (Int.ofNat_le.mp c3)
 clear c3; by_cases c4 : 0 ≤ (a1.size : Int); rotate_left
 · rw [if_neg c4] at H; exact absurd H (by simp)
 rw [if_pos c4] at H; have c4b0 := eq_true c4
 have c4b1 : decide (0 ≤ (a1.size : Int)) = true := decide_eq_true c4
 clear c4; by_cases c5 : (a1.size : Int) ≤ (a0.size : Int); rotate_left
 · rw [if_neg c5] at H; exact absurd H (by simp)
 rw [if_pos c5] at H; have c5b0 := eq_true c5
 have c5b1 : decide ((a1.size : Int) ≤ (a0.size : Int)) = true := decide_eq_true c5
 clear c5
 obtain rfl := Option.some.inj H
 go_enter Tryz.func138, Tryz.ntmps138
 go_wp2; go_ret
 exact ⟨by first | rfl | (simp; done) | (simp [*]; done), by repeat (first | exact Drawn0.refl _ | apply Drawn0.step)⟩
def strings_HasPrefix.f (a0 : ByteArray) (a1 : ByteArray) : Option (Bool) := (stringslite_HasPrefix.f a0 a1).bind fun t138 => (some t138)
set_option maxHeartbeats 8000000 in
set_option maxRecDepth 100000 in
theorem strings_HasPrefix.calls (a0 : ByteArray) (a1 : ByteArray) (r : Bool) (w : World) (h : strings_HasPrefix.f a0 a1 = some r) :
  Calls Tryz.prog 108 #[.string a0, .string a1] w fun e w' => e = .returned (.bool r) ∧ Drawn0 w w' := by
 have H : ((stringslite_HasPrefix.f a0 a1).bind fun t138 => (some t138)) = some r := h
 clear h
 replace H := Option.bind_eq_some_iff.mp H
 obtain ⟨t138, A30, H⟩ := H
 replace H : (some t138) = some r := H
 have A3 := Aside0.mk A30; clear A30
 obtain rfl := Option.some.inj H
 go_enter Tryz.func108, Tryz.ntmps108
 go_wp2_with (first | ((with_reducible refine gate_callee (f := 138) rfl ?_); refine goesL_ (some 7) rfl rfl Tryz.func138 (by kernel_rfl) rfl #[.string a0, .string a1] rfl lR ?_; (with_reducible refine (stringslite_HasPrefix.calls a0 a1 t138 _ A3.out).mono ?_); rintro e w' ⟨rfl, ⟨nd, rfl⟩⟩; refine ⟨_, rfl, ?_⟩))
 go_ret
 exact ⟨by first | rfl | (simp; done) | (simp [*]; done), by repeat (first | exact Drawn0.refl _ | apply Drawn0.step)⟩
end Go.Proofs.YtkedidjjhhjdbaaGreatDoor.Pr
end
section
namespace Go.Proofs.YtkedidjjhhjdbaaGreatDoor.Pr
open Go.RowKit Go.Proofs.YtkedidjjhhjdbaaGreatDoorW.PrintWords Go.Proofs.YtkedidjjhhjdbaaGreatDoorW.PrintLast Go.Proofs.YtkedidjjhhjdbaaGreatDoorW.PrintMore
attribute [local go_sem] max2_int min2_int max_two min_two max_three min_three max_four min_four strGtr strLeq strGeq
set_option linter.unusedVariables false
set_option linter.unusedSimpArgs false
mutual
def policy_braces.l0 : Nat → ByteArray → Bool → Int → Option (Int)
  | 0, _, _, _ => none
  | k + 1, x0, x3, x4 => if x4 < (x0.size : Int) then (if 0 ≤ x4 then (if (bt x0 x4) = 92 then (policy_braces.j1 k x0 x3 x4 x3) else (policy_braces.j1 k x0 x3 x4 false)) else (none)) else (some (-1))
def policy_braces.j1 : Nat → ByteArray → Bool → Int → Bool → Option (Int)
  | 0, _, _, _, _ => none
  | k + 1, x0, x3, x4, x11 => if x11 = true then (policy_braces.l0 k x0 x3 (wrap64 ((wrap64 (x4 + 1)) + 1))) else (if 0 ≤ x4 then (if x4 < (x0.size : Int) then (if (bt x0 x4) = 34 then (policy_braces.l0 k x0 (!x3) (wrap64 (x4 + 1))) else (if (bt x0 x4) = 125 then (if x3 = true then (policy_braces.l0 k x0 x3 (wrap64 (x4 + 1))) else (some (wrap64 (x4 + 1)))) else (policy_braces.l0 k x0 x3 (wrap64 (x4 + 1))))) else (none)) else (none))
end
def policy_braces.f (k : Nat) (a0 : ByteArray) : Option (Int) := policy_braces.l0 k a0 false 0
set_option maxHeartbeats 8000000 in
set_option maxRecDepth 100000 in
theorem policy_braces.calls (k : Nat) (a0 : ByteArray) (r : Int) (w : World) (h : policy_braces.f k a0 = some r) :
  Calls Tryz.prog 78 #[.string a0] w fun e w' => e = .returned (.int .i64 r) ∧ Drawn0 w w' := by
 have H : (policy_braces.l0 k a0 false 0) = some r := h
 clear h; have H' := Aside0.mk H; clear H
 go_enter Tryz.func78, Tryz.ntmps78
 go_wp2
 go_loopg [3, 4] k (fun kq v3 v4 w' => ∃ (x3_1 : Bool) (x4_1 : Int), v3 = .bool x3_1 ∧ v4 = .int .i64 x4_1 ∧ Aside0 (policy_braces.l0 kq a0 x3_1 x4_1 = some r) ∧ Aside0 (kq ≤ k) ∧ Drawn0 w w')
 case atStart => exact ⟨(false), (0), sR, sR, H', ⟨Nat.le_refl _⟩, by repeat (first | exact Drawn0.refl _ | apply Drawn0.step)⟩
 case round =>
  clear H'
  obtain ⟨x3_1, x4_1, rfl, rfl, HA, HK1, ⟨m1, rfl⟩⟩ := hrel
  cases gk with
  | zero => exact absurd HA.out (by simp [policy_braces.l0])
  | succ k1 =>
   have H := HA.out; clear HA
   simp only [policy_braces.l0] at H
   by_cases c2 : x4_1 < (a0.size : Int); rotate_left
   ·
    rw [if_neg c2] at H
    have c2b0 : decide (x4_1 < (a0.size : Int)) = false := decide_eq_false c2
    clear c2
    obtain rfl := Option.some.inj H
    go_wp2; go_ret
    exact ⟨by first | rfl | (simp; done) | (simp [*]; done), by repeat (first | exact Drawn0.refl _ | apply Drawn0.step)⟩
   rw [if_pos c2] at H
   have c2b0 : decide (x4_1 < (a0.size : Int)) = true := decide_eq_true c2
   clear c2; have HC3 := Aside0.mk H; clear H
   go_upto_region 5 with (fail)
   go_cut [11] (fun v11 wc => ∃ (kq : Nat) (x11_2 : Bool), v11 = .bool x11_2 ∧ Aside0 (policy_braces.j1 kq a0 x3_1 x4_1 x11_2 = some r) ∧ Aside0 (kq ≤ k1) ∧ Drawn0 w wc)
   case first =>
    have H := HC3.out; clear HC3; by_cases c4 : 0 ≤ x4_1; rotate_left
    · rw [if_neg c4] at H; exact absurd H (by simp)
    rw [if_pos c4] at H
    have c4b0 : decide (0 ≤ x4_1) = true := decide_eq_true c4
    clear c4
    (first | rw [c4b0] | (simp only [i64_w, i32_w]; rw [c4b0]) | skip)
    by_cases c6 : (bt a0 x4_1) = 92; rotate_left
    ·
     rw [if_neg c6] at H
     have c6b0 : ((bt a0 x4_1) == 92) = false := beq_eq_false_iff_ne.mpr c6
     have c6b1 : ((bt a0 x4_1) != 92) = true := bne_iff_ne.mpr c6
     have H' := Aside0.mk H; clear H
     have p5 : 0 ≤ (x4_1 : Int) := of_decide_eq_true asm
     have q5 : x4_1 < (a0.size : Int) := of_decide_eq_true asm
     have hx5 := bt_at a0 x4_1; replace p5 := eq_true p5; replace q5 := eq_true q5; go_wp2
     go_meet
     case rel => exact ⟨_, (false), sR, H', ⟨by have := HK1.out; first | omega | exact Nat.le_refl _⟩, by repeat (first | exact Drawn0.refl _ | apply Drawn0.step)⟩
    rw [if_pos c6] at H
    have c6b0 : ((bt a0 x4_1) == 92) = true := beq_iff_eq.mpr c6
    have c6b1 : ((bt a0 x4_1) != 92) = false := bne_eq_false_iff_eq.mpr c6
    clear c6; have H' := Aside0.mk H; clear H
    have p5 : 0 ≤ (x4_1 : Int) := of_decide_eq_true asm
    have q5 : x4_1 < (a0.size : Int) := of_decide_eq_true asm
    have hx5 := bt_at a0 x4_1; replace p5 := eq_true p5; replace q5 := eq_true q5; go_wp2
    go_meet
    case rel => exact ⟨_, (x3_1), sR, H', ⟨by have := HK1.out; first | omega | exact Nat.le_refl _⟩, by repeat (first | exact Drawn0.refl _ | apply Drawn0.step)⟩
   case rest =>
    clear HC3; (try clear c2); (try clear c2b0); (try clear p2); (try clear c4); (try clear c4b0); (try clear p5); (try clear q5); (try clear hx5); (try clear c6); (try clear c6b0); (try clear c6b1); (try clear p5); (try clear q5)
    obtain ⟨kq, x11_2, rfl, HA, HJ2, ⟨mc2, rfl⟩⟩ := hcut
    cases kq with
    | zero => exact absurd HA.out (by simp [policy_braces.j1])
    | succ kj2 =>
     have H := HA.out; clear HA
     simp only [policy_braces.j1] at H
     by_cases c7 : x11_2 = true
     ·
      subst c7
      have H1 : (policy_braces.l0 kj2 a0 x3_1 (wrap64 ((wrap64 (x4_1 + 1)) + 1))) = some r := by rw [if_pos rfl] at H; exact H
      clear H; have H := H1; clear H1; have H' := Aside0.mk H; clear H; go_wp2
      go_roundg kj2
      case measure => have := HK1.out; have := HJ2.out; omega
      case rel => exact ⟨(x3_1), (wrap64 ((wrap64 (x4_1 + 1)) + 1)), sR, sR, H', ⟨by have := HK1.out; have := HJ2.out; omega⟩, by repeat (first | exact Drawn0.refl _ | apply Drawn0.step)⟩
     replace c7 := Bool.eq_false_iff.mpr c7
     subst c7
     have H1 : (if 0 ≤ x4_1 then (if x4_1 < (a0.size : Int) then (if (bt a0 x4_1) = 34 then (policy_braces.l0 kj2 a0 (!x3_1) (wrap64 (x4_1 + 1))) else (if (bt a0 x4_1) = 125 then (if x3_1 = true then (policy_braces.l0 kj2 a0 x3_1 (wrap64 (x4_1 + 1))) else (some (wrap64 (x4_1 + 1)))) else (policy_braces.l0 kj2 a0 x3_1 (wrap64 (x4_1 + 1))))) else (none)) else (none)) = some r := by rw [if_neg (show ¬ (false = true) by decide)] at H; exact H
     clear H; have H := H1; clear H1; by_cases c8 : 0 ≤ x4_1; rotate_left
     · rw [if_neg c8] at H; exact absurd H (by simp)
     rw [if_pos c8] at H
     have c8b0 : decide (0 ≤ x4_1) = true := decide_eq_true c8
     clear c8; by_cases c9 : x4_1 < (a0.size : Int); rotate_left
     · rw [if_neg c9] at H; exact absurd H (by simp)
     rw [if_pos c9] at H
     have c9b0 : decide (x4_1 < (a0.size : Int)) = true := decide_eq_true c9
     clear c9; by_cases c11 : (bt a0 x4_1) = 34
     ·
      rw [if_pos c11] at H
      have c11b0 : ((bt a0 x4_1) == 34) = true := beq_iff_eq.mpr c11
      have c11b1 : ((bt a0 x4_1) != 34) = false := bne_eq_false_iff_eq.mpr c11
      clear c11; have H' := Aside0.mk H; clear H
      have p10 : 0 ≤ (x4_1 : Int) := of_decide_eq_true asm
      have q10 : x4_1 < (a0.size : Int) := of_decide_eq_true asm
      have hx10 := bt_at a0 x4_1; replace p10 := eq_true p10; replace q10 := eq_true q10; go_wp2
      go_roundg kj2
      case measure => have := HK1.out; have := HJ2.out; omega
      case rel => exact ⟨(!x3_1), (wrap64 (x4_1 + 1)), sR, sR, H', ⟨by have := HK1.out; have := HJ2.out; omega⟩, by repeat (first | exact Drawn0.refl _ | apply Drawn0.step)⟩
     rw [if_neg c11] at H
     have c11b0 : ((bt a0 x4_1) == 34) = false := beq_eq_false_iff_ne.mpr c11
     have c11b1 : ((bt a0 x4_1) != 34) = true := bne_iff_ne.mpr c11
     by_cases c13 : (bt a0 x4_1) = 125; rotate_left
     ·
      rw [if_neg c13] at H
      have c13b0 : ((bt a0 x4_1) == 125) = false := beq_eq_false_iff_ne.mpr c13
      have c13b1 : ((bt a0 x4_1) != 125) = true := bne_iff_ne.mpr c13
      have H' := Aside0.mk H; clear H
      have p10 : 0 ≤ (x4_1 : Int) := of_decide_eq_true asm
      have q10 : x4_1 < (a0.size : Int) := of_decide_eq_true asm
      have hx10 := bt_at a0 x4_1; replace p10 := eq_true p10; replace q10 := eq_true q10
      have p12 : 0 ≤ (x4_1 : Int) := of_decide_eq_true asm
      have q12 : x4_1 < (a0.size : Int) := of_decide_eq_true asm
      have hx12 := bt_at a0 x4_1; replace p12 := eq_true p12; replace q12 := eq_true q12; go_wp2
      go_roundg kj2
      case measure => have := HK1.out; have := HJ2.out; omega
      case rel => exact ⟨(x3_1), (wrap64 (x4_1 + 1)), sR, sR, H', ⟨by have := HK1.out; have := HJ2.out; omega⟩, by repeat (first | exact Drawn0.refl _ | apply Drawn0.step)⟩
     rw [if_pos c13] at H
     have c13b0 : ((bt a0 x4_1) == 125) = true := beq_iff_eq.mpr c13
     have c13b1 : ((bt a0 x4_1) != 125) = false := bne_eq_false_iff_eq.mpr c13
     clear c13; by_cases c14 : x3_1 = true; rotate_left
     ·
      replace c14 := Bool.eq_false_iff.mpr c14
      subst c14
      have H1 : (some (wrap64 (x4_1 + 1))) = some r := by rw [if_neg (show ¬ (false = true) by decide)] at H; exact H
      clear H; have H := H1; clear H1
      obtain rfl := Option.some.inj H
      have p10 : 0 ≤ (x4_1 : Int) := of_decide_eq_true asm
      have q10 : x4_1 < (a0.size : Int) := of_decide_eq_true asm
      have hx10 := bt_at a0 x4_1; replace p10 := eq_true p10; replace q10 := eq_true q10
      have p12 : 0 ≤ (x4_1 : Int) := of_decide_eq_true asm
      have q12 : x4_1 < (a0.size : Int) := of_decide_eq_true asm
      have hx12 := bt_at a0 x4_1; replace p12 := eq_true p12; replace q12 := eq_true q12; go_wp2; go_ret
      exact ⟨by first | rfl | (simp; done) | (simp [*]; done), by repeat (first | exact Drawn0.refl _ | apply Drawn0.step)⟩
     subst c14
     have H1 : (policy_braces.l0 kj2 a0 true (wrap64 (x4_1 + 1))) = some r := by rw [if_pos rfl] at H; exact H
     clear H; have H := H1; clear H1; have H' := Aside0.mk H; clear H
     have p10 : 0 ≤ (x4_1 : Int) := of_decide_eq_true asm
     have q10 : x4_1 < (a0.size : Int) := of_decide_eq_true asm
     have hx10 := bt_at a0 x4_1; replace p10 := eq_true p10; replace q10 := eq_true q10
     have p12 : 0 ≤ (x4_1 : Int) := of_decide_eq_true asm
     have q12 : x4_1 < (a0.size : Int) := of_decide_eq_true asm
     have hx12 := bt_at a0 x4_1; replace p12 := eq_true p12; replace q12 := eq_true q12; go_wp2
     go_roundg kj2
     case measure => have := HK1.out; have := HJ2.out; omega
     case rel => exact ⟨(true), (wrap64 (x4_1 + 1)), sR, sR, H', ⟨by have := HK1.out; have := HJ2.out; omega⟩, by repeat (first | exact Drawn0.refl _ | apply Drawn0.step)⟩
def stringslite_TrimPrefix.f (a0 : ByteArray) (a1 : ByteArray) : Option (ByteArray) := (stringslite_HasPrefix.f a0 a1).bind fun t156 => (if t156 = true then (if 0 ≤ (a1.size : Int) then (if (a1.size : Int) ≤ (a0.size : Int) then (some (a0.extract ((a1.size : Int) : Int).toNat a0.size)) else (none)) else (none)) else (some a0))
set_option maxHeartbeats 8000000 in
set_option maxRecDepth 100000 in
theorem stringslite_TrimPrefix.calls (a0 : ByteArray) (a1 : ByteArray) (r : ByteArray) (w : World) (h : stringslite_TrimPrefix.f a0 a1 = some r) :
  Calls Tryz.prog 106 #[.string a0, .string a1] w fun e w' => e = .returned (.string r) ∧ Drawn0 w w' := by
 have H : ((stringslite_HasPrefix.f a0 a1).bind fun t156 => (if t156 = true then (if 0 ≤ (a1.size : Int) then (if (a1.size : Int) ≤ (a0.size : Int) then (some (a0.extract ((a1.size : Int) : Int).toNat a0.size)) else (none)) else (none)) else (some a0))) = some r := h
 clear h
 replace H := Option.bind_eq_some_iff.mp H
 obtain ⟨t156, A30, H⟩ := H
 replace H : (if t156 = true then (if 0 ≤ (a1.size : Int) then (if (a1.size : Int) ≤ (a0.size : Int) then (some (a0.extract ((a1.size : Int) : Int).toNat a0.size)) else (none)) else (none)) else (some a0)) = some r := H
 have A3 := Aside0.mk A30; clear A30; by_cases c4 : t156 = true; rotate_left
 ·
  replace c4 := Bool.eq_false_iff.mpr c4
  subst c4
  have H1 : (some a0) = some r := by rw [if_neg (show ¬ (false = true) by decide)] at H; exact H
  clear H; have H := H1; clear H1
  obtain rfl := Option.some.inj H
  go_enter Tryz.func106, Tryz.ntmps106
  go_wp2_with (first | ((with_reducible refine gate_callee (f := 138) rfl ?_); refine goesL_ (some 7) rfl rfl Tryz.func138 (by kernel_rfl) rfl #[.string a0, .string a1] rfl lR ?_; (with_reducible refine (stringslite_HasPrefix.calls a0 a1 false _ A3.out).mono ?_); rintro e w' ⟨rfl, ⟨nd, rfl⟩⟩; refine ⟨_, rfl, ?_⟩))
  go_ret
  exact ⟨by first | rfl | (simp; done) | (simp [*]; done), by repeat (first | exact Drawn0.refl _ | apply Drawn0.step)⟩
 subst c4
 have H1 : (if 0 ≤ (a1.size : Int) then (if (a1.size : Int) ≤ (a0.size : Int) then (some (a0.extract ((a1.size : Int) : Int).toNat a0.size)) else (none)) else (none)) = some r := by rw [if_pos rfl] at H; exact H
 clear H; have H := H1; clear H1; by_cases c5 : 0 ≤ (a1.size : Int); rotate_left
 · rw [if_neg c5] at H; exact absurd H (by simp)
 rw [if_pos c5] at H; have c5b0 := eq_true c5
 have c5b1 : decide (0 ≤ (a1.size : Int)) = true := decide_eq_true c5
 clear c5; by_cases c6 : (a1.size : Int) ≤ (a0.size : Int); rotate_left
 · rw [if_neg c6] at H; exact absurd H (by simp)
 rw [if_pos c6] at H; have c6b0 := eq_true c6
 have c6b1 : decide ((a1.size : Int) ≤ (a0.size : Int)) = true := decide_eq_true c6
 clear c6
 obtain rfl := Option.some.inj H
 go_enter Tryz.func106, Tryz.ntmps106
 go_wp2_with (first | ((with_reducible refine gate_callee (f := 138) rfl ?_); refine goesL_ (some 7) rfl rfl Tryz.func138 (by kernel_rfl) rfl #[.string a0, .string a1] rfl lR ?_; (with_reducible refine (stringslite_HasPrefix.calls a0 a1 true _ A3.out).mono ?_); rintro e w' ⟨rfl, ⟨nd, rfl⟩⟩; refine ⟨_, rfl, ?_⟩))
 go_ret
 exact ⟨by first | rfl | (simp; done) | (simp [*]; done), by repeat (first | exact Drawn0.refl _ | apply Drawn0.step)⟩
def strings_TrimPrefix.f (a0 : ByteArray) (a1 : ByteArray) : Option (ByteArray) := (stringslite_TrimPrefix.f a0 a1).bind fun t157 => (some t157)
set_option maxHeartbeats 8000000 in
set_option maxRecDepth 100000 in
theorem strings_TrimPrefix.calls (a0 : ByteArray) (a1 : ByteArray) (r : ByteArray) (w : World) (h : strings_TrimPrefix.f a0 a1 = some r) :
  Calls Tryz.prog 79 #[.string a0, .string a1] w fun e w' => e = .returned (.string r) ∧ Drawn0 w w' := by
 have H : ((stringslite_TrimPrefix.f a0 a1).bind fun t157 => (some t157)) = some r := h
 clear h
 replace H := Option.bind_eq_some_iff.mp H
 obtain ⟨t157, A30, H⟩ := H
 replace H : (some t157) = some r := H
 have A3 := Aside0.mk A30; clear A30
 obtain rfl := Option.some.inj H
 go_enter Tryz.func79, Tryz.ntmps79
 go_wp2_with (first | ((with_reducible refine gate_callee (f := 106) rfl ?_); refine goesL_ (some 7) rfl rfl Tryz.func106 (by kernel_rfl) rfl #[.string a0, .string a1] rfl lR ?_; (with_reducible refine (stringslite_TrimPrefix.calls a0 a1 t157 _ A3.out).mono ?_); rintro e w' ⟨rfl, ⟨nd, rfl⟩⟩; refine ⟨_, rfl, ?_⟩))
 go_ret
 exact ⟨by first | rfl | (simp; done) | (simp [*]; done), by repeat (first | exact Drawn0.refl _ | apply Drawn0.step)⟩
def policy_word.f (a0 : ByteArray) : Option (Bool) := if a0.toList = ([] : List UInt8) then (some false) else (if 0 < (a0.size : Int) then (if (bt a0 0) ≥ 48 then (if (bt a0 0) ≤ 57 then (some false) else (if (bt a0 0) = 46 then (some false) else ((strings_Trim.f a0 (⟨#[97, 98, 99, 100, 101, 102, 103, 104, 105, 106, 107, 108, 109, 110, 111, 112, 113, 114, 115, 116, 117, 118, 119, 120, 121, 122, 65, 66, 67, 68, 69, 70, 71, 72, 73, 74, 75, 76, 77, 78, 79, 80, 81, 82, 83, 84, 85, 86, 87, 88, 89, 90, 48, 49, 50, 51, 52, 53, 54, 55, 56, 57, 95, 46]⟩ : ByteArray)).bind fun t158 => (some (t158.toList == ([] : List UInt8)))))) else (if (bt a0 0) = 46 then (some false) else ((strings_Trim.f a0 (⟨#[97, 98, 99, 100, 101, 102, 103, 104, 105, 106, 107, 108, 109, 110, 111, 112, 113, 114, 115, 116, 117, 118, 119, 120, 121, 122, 65, 66, 67, 68, 69, 70, 71, 72, 73, 74, 75, 76, 77, 78, 79, 80, 81, 82, 83, 84, 85, 86, 87, 88, 89, 90, 48, 49, 50, 51, 52, 53, 54, 55, 56, 57, 95, 46]⟩ : ByteArray)).bind fun t159 => (some (t159.toList == ([] : List UInt8)))))) else (none))
set_option maxHeartbeats 8000000 in
set_option maxRecDepth 100000 in
theorem policy_word.calls (a0 : ByteArray) (r : Bool) (w : World) (h : policy_word.f a0 = some r) :
  Calls Tryz.prog 81 #[.string a0] w fun e w' => e = .returned (.bool r) ∧ Below w.heap.size w w' := by
 have HB := Aside0.mk (Below.refl w.heap.size w)
 have H : (if a0.toList = ([] : List UInt8) then (some false) else (if 0 < (a0.size : Int) then (if (bt a0 0) ≥ 48 then (if (bt a0 0) ≤ 57 then (some false) else (if (bt a0 0) = 46 then (some false) else ((strings_Trim.f a0 (⟨#[97, 98, 99, 100, 101, 102, 103, 104, 105, 106, 107, 108, 109, 110, 111, 112, 113, 114, 115, 116, 117, 118, 119, 120, 121, 122, 65, 66, 67, 68, 69, 70, 71, 72, 73, 74, 75, 76, 77, 78, 79, 80, 81, 82, 83, 84, 85, 86, 87, 88, 89, 90, 48, 49, 50, 51, 52, 53, 54, 55, 56, 57, 95, 46]⟩ : ByteArray)).bind fun t158 => (some (t158.toList == ([] : List UInt8)))))) else (if (bt a0 0) = 46 then (some false) else ((strings_Trim.f a0 (⟨#[97, 98, 99, 100, 101, 102, 103, 104, 105, 106, 107, 108, 109, 110, 111, 112, 113, 114, 115, 116, 117, 118, 119, 120, 121, 122, 65, 66, 67, 68, 69, 70, 71, 72, 73, 74, 75, 76, 77, 78, 79, 80, 81, 82, 83, 84, 85, 86, 87, 88, 89, 90, 48, 49, 50, 51, 52, 53, 54, 55, 56, 57, 95, 46]⟩ : ByteArray)).bind fun t159 => (some (t159.toList == ([] : List UInt8)))))) else (none))) = some r := h
 clear h; by_cases c2 : a0.toList = ([] : List UInt8)
 ·
  rw [if_pos c2] at H
  have c2b0 : (a0.toList == ([] : List UInt8)) = true := beq_iff_eq.mpr c2
  have c2b1 : (a0.toList != ([] : List UInt8)) = false := bne_eq_false_iff_eq.mpr c2
  clear c2
  obtain rfl := Option.some.inj H
  go_enter Tryz.func81, Tryz.ntmps81
  go_wp2; go_ret
  exact ⟨eR, bO⟩
 rw [if_neg c2] at H
 have c2b0 : (a0.toList == ([] : List UInt8)) = false := beq_eq_false_iff_ne.mpr c2
 have c2b1 : (a0.toList != ([] : List UInt8)) = true := bne_iff_ne.mpr c2
 by_cases c3 : 0 < (a0.size : Int); rotate_left
 · rw [if_neg c3] at H; exact absurd H (by simp)
 rw [if_pos c3] at H
 have c3b0 : decide (0 < (a0.size : Int)) = true := decide_eq_true c3
 have c3b1 : decide (0 < a0.size) = true := decide_eq_true (by omega)
 clear c3; by_cases c5 : (bt a0 0) ≥ 48; rotate_left
 ·
  rw [if_neg c5] at H
  have c5b0 : decide (48 ≤ (bt a0 0)) = false := decide_eq_false c5
  clear c5; by_cases c13 : (bt a0 0) = 46
  ·
   rw [if_pos c13] at H
   have c13b0 : ((bt a0 0) == 46) = true := beq_iff_eq.mpr c13
   have c13b1 : ((bt a0 0) != 46) = false := bne_eq_false_iff_eq.mpr c13
   clear c13
   obtain rfl := Option.some.inj H
   have p4 : 0 ≤ (0 : Int) := (by omega)
   have q4 : 0 < a0.size := (by have : (0 : Int) < (a0.size : Int) := of_decide_eq_true asm; omega)
   have hx4 : ∀ h : 0 < a0.size, ((a0[0]'h).toNat : Int) = bt a0 0 := bt_at a0 0
   clear p4
   have qi4 : (0 < (a0.size : Int)) = True := eq_true (of_decide_eq_true asm)
   replace q4 := eq_true q4
   have p12 : 0 ≤ (0 : Int) := (by omega)
   have q12 : 0 < a0.size := (by have : (0 : Int) < (a0.size : Int) := of_decide_eq_true asm; omega)
   have hx12 : ∀ h : 0 < a0.size, ((a0[0]'h).toNat : Int) = bt a0 0 := bt_at a0 0
   clear p12
   have qi12 : (0 < (a0.size : Int)) = True := eq_true (of_decide_eq_true asm)
   replace q12 := eq_true q12
   go_enter Tryz.func81, Tryz.ntmps81
   go_wp2; go_ret
   exact ⟨eR, bO⟩
  rw [if_neg c13] at H
  have c13b0 : ((bt a0 0) == 46) = false := beq_eq_false_iff_ne.mpr c13
  have c13b1 : ((bt a0 0) != 46) = true := bne_iff_ne.mpr c13
  replace H := Option.bind_eq_some_iff.mp H
  obtain ⟨t159, A140, H⟩ := H
  replace H : (some (t159.toList == ([] : List UInt8))) = some r := H
  have A14 := Aside0.mk A140; clear A140
  obtain rfl := Option.some.inj H
  have p4 : 0 ≤ (0 : Int) := (by omega)
  have q4 : 0 < a0.size := (by have : (0 : Int) < (a0.size : Int) := of_decide_eq_true asm; omega)
  have hx4 : ∀ h : 0 < a0.size, ((a0[0]'h).toNat : Int) = bt a0 0 := bt_at a0 0
  clear p4
  have qi4 : (0 < (a0.size : Int)) = True := eq_true (of_decide_eq_true asm)
  replace q4 := eq_true q4
  have p12 : 0 ≤ (0 : Int) := (by omega)
  have q12 : 0 < a0.size := (by have : (0 : Int) < (a0.size : Int) := of_decide_eq_true asm; omega)
  have hx12 : ∀ h : 0 < a0.size, ((a0[0]'h).toNat : Int) = bt a0 0 := bt_at a0 0
  clear p12
  have qi12 : (0 < (a0.size : Int)) = True := eq_true (of_decide_eq_true asm)
  replace q12 := eq_true q12
  go_enter Tryz.func81, Tryz.ntmps81
  go_wp2_with (first | ((with_reducible refine gate_callee (f := 83) rfl ?_); refine goesL_ (some 21) rfl rfl Tryz.func83 (by kernel_rfl) rfl #[.string a0, .string (⟨#[97, 98, 99, 100, 101, 102, 103, 104, 105, 106, 107, 108, 109, 110, 111, 112, 113, 114, 115, 116, 117, 118, 119, 120, 121, 122, 65, 66, 67, 68, 69, 70, 71, 72, 73, 74, 75, 76, 77, 78, 79, 80, 81, 82, 83, 84, 85, 86, 87, 88, 89, 90, 48, 49, 50, 51, 52, 53, 54, 55, 56, 57, 95, 46]⟩ : ByteArray)] rfl lR ?_; (with_reducible refine (strings_Trim.calls a0 (⟨#[97, 98, 99, 100, 101, 102, 103, 104, 105, 106, 107, 108, 109, 110, 111, 112, 113, 114, 115, 116, 117, 118, 119, 120, 121, 122, 65, 66, 67, 68, 69, 70, 71, 72, 73, 74, 75, 76, 77, 78, 79, 80, 81, 82, 83, 84, 85, 86, 87, 88, 89, 90, 48, 49, 50, 51, 52, 53, 54, 55, 56, 57, 95, 46]⟩ : ByteArray) t159 _ A14.out).mono ?_); rintro e w15 ⟨rfl, hb⟩; refine ⟨_, rfl, ?_⟩; have n0_ := Aside0.mk (below_step bO hb); clear HB; have HB := n0_; clear n0_; (try clear hb); (try clear hb2); (try clear hk); (try clear hi)))
  go_ret
  exact ⟨eR, bO⟩
 rw [if_pos c5] at H
 have c5b0 : decide (48 ≤ (bt a0 0)) = true := decide_eq_true c5
 clear c5; by_cases c7 : (bt a0 0) ≤ 57
 ·
  rw [if_pos c7] at H
  have c7b0 : decide ((bt a0 0) ≤ 57) = true := decide_eq_true c7
  clear c7
  obtain rfl := Option.some.inj H
  have p4 : 0 ≤ (0 : Int) := (by omega)
  have q4 : 0 < a0.size := (by have : (0 : Int) < (a0.size : Int) := of_decide_eq_true asm; omega)
  have hx4 : ∀ h : 0 < a0.size, ((a0[0]'h).toNat : Int) = bt a0 0 := bt_at a0 0
  clear p4
  have qi4 : (0 < (a0.size : Int)) = True := eq_true (of_decide_eq_true asm)
  replace q4 := eq_true q4
  have p6 : 0 ≤ (0 : Int) := (by omega)
  have q6 : 0 < a0.size := (by have : (0 : Int) < (a0.size : Int) := of_decide_eq_true asm; omega)
  have hx6 : ∀ h : 0 < a0.size, ((a0[0]'h).toNat : Int) = bt a0 0 := bt_at a0 0
  clear p6
  have qi6 : (0 < (a0.size : Int)) = True := eq_true (of_decide_eq_true asm)
  replace q6 := eq_true q6
  go_enter Tryz.func81, Tryz.ntmps81
  go_wp2; go_ret
  exact ⟨eR, bO⟩
 rw [if_neg c7] at H
 have c7b0 : decide ((bt a0 0) ≤ 57) = false := decide_eq_false c7
 clear c7; by_cases c9 : (bt a0 0) = 46
 ·
  rw [if_pos c9] at H
  have c9b0 : ((bt a0 0) == 46) = true := beq_iff_eq.mpr c9
  have c9b1 : ((bt a0 0) != 46) = false := bne_eq_false_iff_eq.mpr c9
  clear c9
  obtain rfl := Option.some.inj H
  have p4 : 0 ≤ (0 : Int) := (by omega)
  have q4 : 0 < a0.size := (by have : (0 : Int) < (a0.size : Int) := of_decide_eq_true asm; omega)
  have hx4 : ∀ h : 0 < a0.size, ((a0[0]'h).toNat : Int) = bt a0 0 := bt_at a0 0
  clear p4
  have qi4 : (0 < (a0.size : Int)) = True := eq_true (of_decide_eq_true asm)
  replace q4 := eq_true q4
  have p6 : 0 ≤ (0 : Int) := (by omega)
  have q6 : 0 < a0.size := (by have : (0 : Int) < (a0.size : Int) := of_decide_eq_true asm; omega)
  have hx6 : ∀ h : 0 < a0.size, ((a0[0]'h).toNat : Int) = bt a0 0 := bt_at a0 0
  clear p6
  have qi6 : (0 < (a0.size : Int)) = True := eq_true (of_decide_eq_true asm)
  replace q6 := eq_true q6
  have p8 : 0 ≤ (0 : Int) := (by omega)
  have q8 : 0 < a0.size := (by have : (0 : Int) < (a0.size : Int) := of_decide_eq_true asm; omega)
  have hx8 : ∀ h : 0 < a0.size, ((a0[0]'h).toNat : Int) = bt a0 0 := bt_at a0 0
  clear p8
  have qi8 : (0 < (a0.size : Int)) = True := eq_true (of_decide_eq_true asm)
  replace q8 := eq_true q8
  go_enter Tryz.func81, Tryz.ntmps81
  go_wp2; go_ret
  exact ⟨eR, bO⟩
 rw [if_neg c9] at H
 have c9b0 : ((bt a0 0) == 46) = false := beq_eq_false_iff_ne.mpr c9
 have c9b1 : ((bt a0 0) != 46) = true := bne_iff_ne.mpr c9
 replace H := Option.bind_eq_some_iff.mp H
 obtain ⟨t158, A100, H⟩ := H
 replace H : (some (t158.toList == ([] : List UInt8))) = some r := H
 have A10 := Aside0.mk A100; clear A100
 obtain rfl := Option.some.inj H
 have p4 : 0 ≤ (0 : Int) := (by omega)
 have q4 : 0 < a0.size := (by have : (0 : Int) < (a0.size : Int) := of_decide_eq_true asm; omega)
 have hx4 : ∀ h : 0 < a0.size, ((a0[0]'h).toNat : Int) = bt a0 0 := bt_at a0 0
 clear p4
 have qi4 : (0 < (a0.size : Int)) = True := eq_true (of_decide_eq_true asm)
 replace q4 := eq_true q4
 have p6 : 0 ≤ (0 : Int) := (by omega)
 have q6 : 0 < a0.size := (by have : (0 : Int) < (a0.size : Int) := of_decide_eq_true asm; omega)
 have hx6 : ∀ h : 0 < a0.size, ((a0[0]'h).toNat : Int) = bt a0 0 := bt_at a0 0
 clear p6
 have qi6 : (0 < (a0.size : Int)) = True := eq_true (of_decide_eq_true asm)
 replace q6 := eq_true q6
 have p8 : 0 ≤ (0 : Int) := (by omega)
 have q8 : 0 < a0.size := (by have : (0 : Int) < (a0.size : Int) := of_decide_eq_true asm; omega)
 have hx8 : ∀ h : 0 < a0.size, ((a0[0]'h).toNat : Int) = bt a0 0 := bt_at a0 0
 clear p8
 have qi8 : (0 < (a0.size : Int)) = True := eq_true (of_decide_eq_true asm)
 replace q8 := eq_true q8
 go_enter Tryz.func81, Tryz.ntmps81
 go_wp2_with (first | ((with_reducible refine gate_callee (f := 83) rfl ?_); refine goesL_ (some 21) rfl rfl Tryz.func83 (by kernel_rfl) rfl #[.string a0, .string (⟨#[97, 98, 99, 100, 101, 102, 103, 104, 105, 106, 107, 108, 109, 110, 111, 112, 113, 114, 115, 116, 117, 118, 119, 120, 121, 122, 65, 66, 67, 68, 69, 70, 71, 72, 73, 74, 75, 76, 77, 78, 79, 80, 81, 82, 83, 84, 85, 86, 87, 88, 89, 90, 48, 49, 50, 51, 52, 53, 54, 55, 56, 57, 95, 46]⟩ : ByteArray)] rfl lR ?_; (with_reducible refine (strings_Trim.calls a0 (⟨#[97, 98, 99, 100, 101, 102, 103, 104, 105, 106, 107, 108, 109, 110, 111, 112, 113, 114, 115, 116, 117, 118, 119, 120, 121, 122, 65, 66, 67, 68, 69, 70, 71, 72, 73, 74, 75, 76, 77, 78, 79, 80, 81, 82, 83, 84, 85, 86, 87, 88, 89, 90, 48, 49, 50, 51, 52, 53, 54, 55, 56, 57, 95, 46]⟩ : ByteArray) t158 _ A10.out).mono ?_); rintro e w11 ⟨rfl, hb⟩; refine ⟨_, rfl, ?_⟩; have n0_ := Aside0.mk (below_step bO hb); clear HB; have HB := n0_; clear n0_; (try clear hb); (try clear hb2); (try clear hk); (try clear hi)))
 go_ret
 exact ⟨eR, bO⟩
end Go.Proofs.YtkedidjjhhjdbaaGreatDoor.Pr
end
section
set_option linter.unusedVariables false
set_option linter.unusedSimpArgs false
namespace Go.Proofs.YtkedidjjhhjdbaaGreatDoor.Pr
open Go.RowKit Go.Proofs.YtkedidjjhhjdbaaGreatDoorW.PrintWords Go.Proofs.YtkedidjjhhjdbaaGreatDoorW.PrintLast Go.Proofs.YtkedidjjhhjdbaaGreatDoorW.PrintMore
def strings_Join.f (l0 : List ByteArray) (a1 : ByteArray) : Option ByteArray := if l0.length ≤ 140737488355328 ∧ (Lib.join (l0.map (·.data.toList)) a1.data.toList).length ≤ 140737488355328 then some ⟨(Lib.join (l0.map (·.data.toList)) a1.data.toList).toArray⟩ else none
theorem strings_Join.calls (A0 : Option Addr) (c0 : Nat) (l0 : List ByteArray) (a1 : ByteArray) (r : ByteArray) (w : World) (hr0 : Kd.C Kd.string w A0 l0.length l0) (hc0 : l0.length ≤ c0) (h : strings_Join.f l0 a1 = some r) :
  Calls Tryz.prog 72 #[.slice A0 l0.length c0, .string a1] w fun e w' => e = .returned (.string r) ∧ Below w.heap.size w w' := by
 unfold strings_Join.f at h
 by_cases hs : l0.length ≤ 140737488355328 ∧ (Lib.join (l0.map (·.data.toList)) a1.data.toList).length ≤ 140737488355328; rotate_left
 · rw [if_neg hs] at h; cases h
 rw [if_pos hs] at h
 obtain rfl := Option.some.inj h
 rcases Nat.eq_zero_or_pos l0.length with h0 | h0
 rotate_left
 ·
  obtain ⟨b, o, rfl, hb, hc⟩ := strs_cells hr0 h0
  exact Tryz.strings_Join b o c0 l0 a1 w hc hb hs.1 hc0 hs.2
 obtain rfl := List.eq_nil_of_length_eq_zero h0
 refine (Tryz.strings_Join_none A0 c0 a1 w).mono ?_
 rintro e w' ⟨rfl, rfl⟩
 exact ⟨rfl, Below.refl _ _⟩
end Go.Proofs.YtkedidjjhhjdbaaGreatDoor.Pr
end
section
set_option linter.unusedVariables false
set_option linter.unusedSimpArgs false
namespace Go.Proofs.YtkedidjjhhjdbaaGreatDoor.Pr
theorem disable (w : World) : (callFunc 185 #[]).run Tryz.prog w = .ok (.value (.tuple #[])) w := run_call_mark0 Tryz.func185 (by kernel_rfl) (by kernel_rfl) (by kernel_rfl) .disable (by kernel_rfl) w
theorem enable (w : World) : (callFunc 187 #[]).run Tryz.prog w = .ok (.value (.tuple #[])) w := run_call_mark0 Tryz.func187 (by kernel_rfl) (by kernel_rfl) (by kernel_rfl) .enable (by kernel_rfl) w
theorem acquire (a : Addr) (w : World) : (callFunc 188 #[.pointer (some a)]).run Tryz.prog w = .ok (.value (.tuple #[])) w := run_call_marked Tryz.func188 (by kernel_rfl) (by kernel_rfl) (by kernel_rfl) .acquire (by kernel_rfl) a w
theorem releaseMerge (a : Addr) (w : World) : (callFunc 190 #[.pointer (some a)]).run Tryz.prog w = .ok (.value (.tuple #[])) w := run_call_marked Tryz.func190 (by kernel_rfl) (by kernel_rfl) (by kernel_rfl) .releaseMerge (by kernel_rfl) a w
set_option maxHeartbeats 4000000 in
set_option maxRecDepth 1000000 in
theorem store_deferred (a : Addr) (x : Value) (u : FrameMode) (w : World) (hc : w.cell? a = some x) (hz : w.frozen? a = false) :
  CallsD Tryz.prog 176 #[.pointer (some a), .bool true] u w fun e u' w' => u' = u ∧ (e = .returned (.tuple #[]) ∧ w' = w.drew.setCell a (.int .u32 1)) := by
 have hc' : w.drew.cell? a = some x := by go_simp
 have hz' : w.drew.frozen? a = false := by go_simp
 have hst := run_call_store (P := Tryz.prog) Tryz.func181 (by kernel_rfl) (by kernel_rfl) (by kernel_rfl) (by kernel_rfl) (k := .u32) (y := 1) hc' hz'
 go_enter_d Tryz.func176, Tryz.ntmps176
 go_wp2
 go_region_calls
 all_goals (go_end0; exact ⟨rfl, rfl⟩)
set_option maxHeartbeats 4000000 in
set_option maxRecDepth 1000000 in
theorem unlock_deferred (a : Addr) (u : FrameMode) (w : World) (hc : w.cell? a = some (.int .i32 1)) (hz : w.frozen? a = false) :
  CallsD Tryz.prog 175 #[.pointer (some a)] u w fun e u' w' => u' = u ∧ (e = .returned (.tuple #[]) ∧ w' = w.setCell a (.int .i32 0)) := by
 have hd := disable; have he := enable; have hr := releaseMerge
 have hadd := run_call_add (P := Tryz.prog) Tryz.func191 (by kernel_rfl) (by kernel_rfl) (by kernel_rfl) .i32 (by kernel_rfl) (y := -1) (s := 0) hc hz (by simp [go_sem]; rfl)
 have hcv := run_convert_to_unsafe (P := Tryz.prog) (src := 231) (dst := 126) Tryz.underlying231 Tryz.underlying126 (by kernel_rfl) hc
 go_enter_d Tryz.func175, Tryz.ntmps175
 go_wp2
 go_end0
 go_wp2
 go_end0
 exact ⟨rfl, rfl⟩
set_option maxHeartbeats 4000000 in
set_option maxRecDepth 1000000 in
theorem lock_free (a : Addr) (w : World) (hc : w.cell? a = some (.int .i32 0)) (hz : w.frozen? a = false) :
  Calls Tryz.prog 174 #[.pointer (some a)] w fun e w' => e = .returned (.tuple #[]) ∧ w' = w.setCell a (.int .i32 1) := by
 have hd := disable; have he := enable; have ha := acquire; have hcas := run_call_cas_hit (P := Tryz.prog) Tryz.func186 (by kernel_rfl) (by kernel_rfl) (by kernel_rfl) .i32 (by kernel_rfl) (y := 1) hc hz
 have hc' : (w.setCell a (.int .i32 1)).cell? a = some (.int .i32 1) := World.cell?_setCell_same w a _ hc
 have hcv := run_convert_to_unsafe (P := Tryz.prog) (src := 231) (dst := 126) Tryz.underlying231 Tryz.underlying126 (by kernel_rfl) hc'
 go_enter Tryz.func174, Tryz.ntmps174
 go_wp2
 first | go_end0 | (simp only [Exit.inBlock, Exit.then]; refine bodyPost_ret (results_none rfl _ _ _) rfl ?_) | refine bodyPost_ret (results_none rfl _ _ _) rfl ?_
 go_wp2
 go_end0
 exact ⟨rfl, rfl⟩
end Go.Proofs.YtkedidjjhhjdbaaGreatDoor.Pr
end
section
set_option linter.unusedVariables false
set_option linter.unusedSimpArgs false
namespace Go.Proofs.YtkedidjjhhjdbaaGreatDoor.Pr
open Go.Proofs.YtkedidjjhhjdbaaGreatDoorW.PrintWords
theorem bcell {w : World} {g : Nat} {cs : Array Value} {t : TypeId} (h : w.heap[g]? = some (.cells cs t (0, 0))) (i : Nat) : w.cell? ⟨g, i, none⟩ = cs[i]? := blk_cell h i
set_option maxRecDepth 1000000 in
set_option maxHeartbeats 4000000 in
theorem slow_any (g : Nat) (x3 x4 y3 y4 : Value) (w : World) (R : World → Prop) (hb : w.heap[g]? = some (.cells #[.int .u32 0, .int .i32 0, .int .u32 0, x3, x4] 188 (0, 0)))
  (hF : Calls Tryz.prog 153 #[.pointer (some ⟨g, 0, none⟩)] (w.setCell ⟨g, 1, none⟩ (.int .i32 1)) fun e w' => e = .returned (.tuple #[]) ∧ w'.heap[g]? = some (.cells #[.int .u32 0, .int .i32 1, .int .u32 0, y3, y4] 188 (0, 0)) ∧ R w')
  (hR : ∀ W j u, R W → R (W.setCell ⟨g, j, none⟩ u)) (hD : ∀ W, R W → R W.drew) :
  Calls Tryz.prog 168 #[.pointer (some ⟨g, 0, none⟩), .func (.func 153) #[.pointer (some ⟨g, 0, none⟩)] #[]] w fun e w' => e = .returned (.tuple #[]) ∧
   w'.heap[g]? = some (.cells #[.int .u32 1, .int .i32 0, .int .u32 0, y3, y4] 188 (0, 0)) ∧ R w' := by
 have h0 : w.cell? ⟨g, 0, none⟩ = some (.int .u32 0) := bcell hb 0
 have h1 : w.cell? ⟨g, 1, none⟩ = some (.int .i32 0) := bcell hb 1
 have f1 : w.frozen? ⟨g, 1, none⟩ = false := blk_frozen hb 1
 have hl := run_call_load (P := Tryz.prog) Tryz.func173 (by kernel_rfl) (by kernel_rfl) (by kernel_rfl) .u32 (by kernel_rfl) (w := w.setCell ⟨g, 1, none⟩ (.int .i32 1)) (a := ⟨g, 0, none⟩) (x := 0) ((World.cell?_setCell_other _ ⟨g, 1, none⟩ ⟨g, 0, none⟩ _ (by simp)).trans h0)
 have hnot : ∀ (x : Bool) (w : World), (Op.unary .not (.bool x)).run Tryz.prog w = .ok (.bool (!x)) w := fun _ _ => rfl
 have HF := Aside0.mk hF; have HR := Aside0.mk hR; have HD := Aside0.mk hD; clear hF hb hR hD
 go_enter_defers Tryz.func168, Tryz.ntmps168
 go_wp2_with (go_at_call 174; refine (lock_free ⟨g, 1, none⟩ _ (by go_simp) (by go_simp)).mono ?_; rintro e w' ⟨rfl, rfl⟩)
 go_wp2_with (first | (go_at_call 153; refine HF.out.mono ?_; rintro e w1 ⟨rfl, hb1, hr1⟩; have HB1 := Aside0.mk hb1; have HR1 := Aside0.mk hr1; clear hb1 hr1) | (go_at_call 167; go_in))
 have k0 : w1.cell? ⟨g, 0, none⟩ = some (.int .u32 0) := bcell HB1.out 0
 have k1 : w1.cell? ⟨g, 1, none⟩ = some (.int .i32 1) := bcell HB1.out 1
 have z0 : w1.frozen? ⟨g, 0, none⟩ = false := blk_frozen HB1.out 0
 have z1 : w1.frozen? ⟨g, 1, none⟩ = false := blk_frozen HB1.out 1
 have HBd : w1.drew.heap[g]? = _ := HB1.out
 have B1 := blk_set HBd 0 (.int .u32 1); have B2 := blk_set B1 1 (.int .i32 0)
 refine leaves_cons (f := 176) (args := #[.pointer (some ⟨g, 0, none⟩), .bool true]) (by simp) (by simp [go_sem]) ?_
 refine (store_deferred ⟨g, 0, none⟩ (.int .u32 0) _ _ k0 z0).mono ?_
 rintro e u' w'' ⟨rfl, rfl, rfl⟩
 refine leaves_cons (f := 175) (args := #[.pointer (some ⟨g, 1, none⟩)]) (by simp [settle]) (by simp [go_sem]) ?_
 refine (unlock_deferred ⟨g, 1, none⟩ _ _ (bcell B1 1) (blk_frozen B1 1)).mono ?_
 rintro e u' w'' ⟨rfl, rfl, rfl⟩
 simp [Leaves, settle, results, Tryz.results168]
 exact ⟨B2, HR.out _ _ _ (HR.out _ _ _ (HD.out _ HR1.out))⟩
end Go.Proofs.YtkedidjjhhjdbaaGreatDoor.Pr
end
