import Derived.Test.YtkedidjjhhjdbaaGreatDoorV0
import Derived.Test.YtkedidjjhhjdbaaGreatDoorV8
import Derived.Test.YtkedidjjhhjdbaaGreatDoorV11
import Derived.Test.YtkedidjjhhjdbaaGreatDoorV13
import Derived.Test.YtkedidjjhhjdbaaGreatDoorV5
import Derived.Lib.SliceRun
section
set_option linter.unusedVariables false
set_option linter.unusedSimpArgs false
namespace Go.Proofs.YtkedidjjhhjdbaaGreatDoor.Pr
open Go.RowKit Go.Proofs.YtkedidjjhhjdbaaGreatDoorW.PrintWords Go.Proofs.YtkedidjjhhjdbaaGreatDoorW.PrintLast Go.Proofs.YtkedidjjhhjdbaaGreatDoorW.PrintMore
def ltM (x y : S33) : Bool := ltOf cmpMat x y
theorem ltM_trans {x y z : S33} (h : ltM x y = true) (h' : ltM y z = true) : ltM x z = true := swoMat.trans x y z h h'
theorem ltM_irrefl (x : S33) : ltM x x = false := swoMat.irrefl x
theorem less_tri {a b : List UInt8} (h : Op.bytesLess a b = false) (h' : Op.bytesLess b a = false) : a = b := by
 have := bytesLess_total a b
 rw [h, h', Bool.false_or] at this
 exact eq_of_beq (by simpa using this)
theorem ltM_tri {x y : S33} (h : ltM x y = false) (h' : ltM y x = false) : x = y := by
 have n1 : ¬ _ := fun e => Bool.noConfusion (h.symm.trans ((cmpMat_lt x y).2 e))
 have n2 : ¬ _ := fun e => Bool.noConfusion (h'.symm.trans ((cmpMat_lt y x).2 e))
 have e1 : x.f1.data.toList = y.f1.data.toList := less_tri (Bool.eq_false_iff.mpr fun e => n1 (.inl e)) (Bool.eq_false_iff.mpr fun e => n2 (.inl e))
 have o1 : ¬ x.f0 < y.f0 := fun e => n1 (.inr ⟨e1, .inl e⟩)
 have o2 : ¬ y.f0 < x.f0 := fun e => n2 (.inr ⟨e1.symm, .inl e⟩)
 have e0 : x.f0 = y.f0 := by omega
 have e2 : x.f2.data.toList = y.f2.data.toList := less_tri (Bool.eq_false_iff.mpr fun e => n1 (.inr ⟨e1, .inr ⟨e0, e⟩⟩)) (Bool.eq_false_iff.mpr fun e => n2 (.inr ⟨e1.symm, .inr ⟨e0.symm, e⟩⟩))
 have e1' : x.f1 = y.f1 := bytes_ext (by rw [Lib.toList_data, Lib.toList_data]; exact e1)
 have e2' : x.f2 = y.f2 := bytes_ext (by rw [Lib.toList_data, Lib.toList_data]; exact e2)
 cases x; cases y
 simp only at e0 e1' e2'
 rw [e0, e1', e2']
theorem eqM_eq {x y : S33} (h : eqM x y = true) : x = y := by
 unfold eqM at h
 simp only [Bool.and_eq_true, beq_iff_eq] at h
 obtain ⟨h0, h1, h2⟩ := h
 cases x; cases y
 simp only at h0 h1 h2
 rw [h0, bytes_ext h1, bytes_ext h2]
theorem eqM_refl (x : S33) : eqM x x = true := by simp [eqM]
theorem eqM_ne {x y : S33} (h : eqM x y = false) : x ≠ y := by rintro rfl; rw [eqM_refl] at h; cases h
abbrev Stc (l : List S33) : Prop := l.Pairwise fun a b => ltM a b = true
theorem stc_ext : ∀ {a b : List S33}, Stc a → Stc b → (∀ x, x ∈ a ↔ x ∈ b) → a = b
 | [], [], _, _, _ => rfl
 | [], y :: b, _, _, h => by have := (h y).2 (List.mem_cons_self ..); cases this
 | x :: a, [], _, _, h => by have := (h x).1 (List.mem_cons_self ..); cases this
 | x :: a, y :: b, ha, hb, h => by
  have ha' := List.pairwise_cons.1 ha; have hb' := List.pairwise_cons.1 hb
  have e : x = y := by
   rcases List.mem_cons.1 ((h x).1 (List.mem_cons_self ..)) with e | hx
   · exact e
   rcases List.mem_cons.1 ((h y).2 (List.mem_cons_self ..)) with e | hy
   · exact e.symm
   have := ltM_trans (ha'.1 y hy) (hb'.1 x hx)
   rw [ltM_irrefl] at this; cases this
  subst e
  rw [stc_ext ha'.2 hb'.2 (fun z => ?_)]
  constructor
  ·
   intro hz
   rcases List.mem_cons.1 ((h z).1 (List.mem_cons_of_mem _ hz)) with e | hz'
   rotate_left
   · exact hz'
   subst e; have := ha'.1 z hz; rw [ltM_irrefl] at this; cases this
  intro hz
  rcases List.mem_cons.1 ((h z).2 (List.mem_cons_of_mem _ hz)) with e | hz'
  rotate_left
  · exact hz'
  subst e; have := hb'.1 z hz; rw [ltM_irrefl] at this; cases this
def insU (x : S33) : List S33 → List S33
  | [] => [x]
  | y :: m => if ltM x y = true then x :: y :: m else if eqM y x = true then y :: m else y :: insU x m
theorem insU_mem (x z : S33) : ∀ m, z ∈ insU x m ↔ z = x ∨ z ∈ m
 | [] => by simp [insU]
 | y :: m => by
  rw [insU]; by_cases h : ltM x y = true
  · rw [if_pos h]; simp
  rw [if_neg h]; by_cases e : eqM y x = true
  ·
   rw [if_pos e]
   have := eqM_eq e
   subst this
   simp
  rw [if_neg e, List.mem_cons, insU_mem x z m, List.mem_cons]
  constructor
  ·
   rintro (h | h | h)
   · exact .inr (.inl h)
   · exact .inl h
   exact .inr (.inr h)
  rintro (h | h | h)
  · exact .inr (.inl h)
  · exact .inl h
  exact .inr (.inr h)
theorem insU_stc (x : S33) : ∀ m, Stc m → Stc (insU x m)
 | [], _ => by simp [insU, Stc]
 | y :: m, h => by
  have h' := List.pairwise_cons.1 h; rw [insU]; by_cases hl : ltM x y = true
  ·
   rw [if_pos hl]
   refine List.pairwise_cons.2 ⟨fun z hz => ?_, h⟩
   rcases List.mem_cons.1 hz with rfl | hz
   · exact hl
   exact ltM_trans hl (h'.1 z hz)
  rw [if_neg hl]; by_cases e : eqM y x = true
  · rw [if_pos e]; exact h
  rw [if_neg e]
  refine List.pairwise_cons.2 ⟨fun z hz => ?_, insU_stc x m h'.2⟩
  rcases (insU_mem x z m).1 hz with rfl | hz
  rotate_left
  · exact h'.1 z hz
  cases hyx : ltM y z with
  | true => rfl
  | false => exact absurd (ltM_tri hyx (Bool.eq_false_iff.mpr hl)) (eqM_ne (Bool.eq_false_iff.mpr e))
theorem insU_len (x : S33) : ∀ m, m.length ≤ (insU x m).length
 | [] => by simp
 | y :: m => by
  have := insU_len x m
  rw [insU]
  split
  · simp
  split
  · simp
  simp; omega
theorem insU_split (x : S33) : ∀ (a b : List S33), (∀ y ∈ a, ltM y x = true) → (∀ y, b.head? = some y → ltM x y = true) → insU x (a ++ b) = a ++ x :: b
 | [], [], _, _ => rfl
 | [], y :: b, _, h => by show insU x (y :: b) = x :: y :: b; rw [insU, if_pos (h y rfl)]
 | y :: a, b, ha, hb => by
  have hy := ha y (List.mem_cons_self ..)
  rw [List.cons_append, insU, if_neg (fun h => by have := ltM_trans h hy; rw [ltM_irrefl] at this; cases this), if_neg (fun e => by rw [eqM_eq e, ltM_irrefl] at hy; cases hy), insU_split x a b (fun z hz => ha z (List.mem_cons_of_mem _ hz)) hb]
  rfl
theorem insU_met (x : S33) : ∀ (a b : List S33), (∀ y ∈ a, ltM y x = true) → insU x (a ++ x :: b) = a ++ x :: b
 | [], b, _ => by show insU x (x :: b) = x :: b; rw [insU, if_neg (by rw [ltM_irrefl]; simp), if_pos (eqM_refl x)]
 | y :: a, b, ha => by
  have hy := ha y (List.mem_cons_self ..)
  rw [List.cons_append, insU, if_neg (fun h => by have := ltM_trans h hy; rw [ltM_irrefl] at this; cases this), if_neg (fun e => by rw [eqM_eq e, ltM_irrefl] at hy; cases hy), insU_met x a b (fun z hz => ha z (List.mem_cons_of_mem _ hz))]
def insAllU (m : List S33) (l : List S33) : List S33 := l.foldl (fun a x => insU x a) m
theorem insAllU_stc : ∀ (l m : List S33), Stc m → Stc (insAllU m l)
 | [], _, h => h
 | x :: l, m, h => insAllU_stc l (insU x m) (insU_stc x m h)
theorem insAllU_mem (z : S33) : ∀ (l m : List S33), z ∈ insAllU m l ↔ z ∈ m ∨ z ∈ l
 | [], m => by simp [insAllU]
 | x :: l, m => by
  have := insAllU_mem z l (insU x m)
  rw [insU_mem] at this
  show z ∈ insAllU (insU x m) l ↔ _
  rw [this, List.mem_cons]
  constructor
  rotate_left
  ·
   rintro (h | h | h)
   · exact .inl (.inr h)
   rotate_left
   · exact .inr h
   exact .inl (.inl h)
  rintro ((h | h) | h)
  · exact .inr (.inl h)
  · exact .inl h
  exact .inr (.inr h)
theorem insAllU_len : ∀ (l m : List S33), m.length ≤ (insAllU m l).length
 | [], m => Nat.le_refl _
 | x :: l, m => Nat.le_trans (insU_len x m) (insAllU_len l (insU x m))
theorem sorted33_srt (l : List S33) : (sorted33 l).Pairwise fun a b => ltM b a = false := by
 obtain ⟨_, h2, h3⟩ := sorted33_perm l
 refine List.pairwise_iff_getElem.2 fun i j hi hj hij => ?_
 have := h3 i j (Nat.zero_le _) hij (by omega)
 simp [hi, hj] at this
 exact this
theorem ddFrom_mem : ∀ (l : List S33) (q x : S33), x ∈ q :: ddFrom q l ↔ x ∈ q :: l
 | [], q, x => Iff.rfl
 | y :: l, q, x => by
  rw [ddFrom]; by_cases h : eqM y q = true; rotate_left
  · rw [if_neg h, List.mem_cons, ddFrom_mem l y x, ← List.mem_cons]
  rw [if_pos h]
  have := eqM_eq h
  subst this; rw [ddFrom_mem l y x]
  simp
theorem ddFrom_stc : ∀ (l : List S33) (q : S33), (q :: l).Pairwise (fun a b => ltM b a = false) → Stc (q :: ddFrom q l)
 | [], q, _ => by simp [ddFrom, Stc]
 | y :: l, q, h => by
  have h' := List.pairwise_cons.1 h; have ih := ddFrom_stc l y h'.2; rw [ddFrom]; by_cases e : eqM y q = true
  ·
   rw [if_pos e]
   have := eqM_eq e
   subst this; exact ih
  rw [if_neg e]
  have hqy : ltM q y = true := by
   cases hh : ltM q y with
   | true => rfl
   | false => exact absurd (ltM_tri (h'.1 y (List.mem_cons_self ..)) hh) (eqM_ne (Bool.eq_false_iff.mpr e))
  refine List.pairwise_cons.2 ⟨fun z hz => ?_, ih⟩
  rcases List.mem_cons.1 hz with rfl | hz
  · exact hqy
  exact ltM_trans hqy ((List.pairwise_cons.1 ih).1 z hz)
theorem dd_sorted (l : List S33) : dd (sorted33 l) = insAllU [] l := by
 have hs := sorted33_srt l; have hp := (sorted33_perm l).1
 refine stc_ext ?_ (insAllU_stc l [] List.Pairwise.nil) (fun x => ?_)
 ·
  generalize sorted33 l = s at hs
  cases s with
  | nil => exact List.Pairwise.nil
  | cons q s => exact ddFrom_stc s q hs
 rw [insAllU_mem]
 have : x ∈ dd (sorted33 l) ↔ x ∈ sorted33 l := by
  generalize sorted33 l = s
  cases s with
  | nil => exact Iff.rfl
  | cons q s => exact ddFrom_mem s q x
 rw [this, hp.mem_iff]
 simp
def bothL (a b : List S33) : List S33 × Int := if ((insAllU [] (a ++ b)).length : Int) > 8 then ([], 7) else if wrongL (a ++ b) = 0 then (insAllU [] (a ++ b), 0) else ([], wrongL (a ++ b))
theorem both_ev (a b : List S33) (h : a.length + b.length ≤ 3518437208883) : Ev (fun k => attr_Both.f k a b) (bothL a b) := by
 unfold attr_Both.f bothL
 rw [dd_sorted]
 rw [show (fun k => if (a.length + b.length) * 40 ≤ 140737488355328 then (attr_wrong.f k (a ++ b)).bind fun why => if ((insAllU [] (a ++ b)).length : Int) > 8 then some ([], 7) else if why = 0 then some (insAllU [] (a ++ b), 0) else some ([], why) else none) = fun k => (attr_wrong.f k (a ++ b)).bind fun why => if ((insAllU [] (a ++ b)).length : Int) > 8 then some ([], 7) else if why = 0 then some (insAllU [] (a ++ b), 0) else some ([], why) from funext fun k => if_pos (by omega)]
 refine Ev.bind (wrong_ev (a ++ b) (by simp; omega)) (Ev.const ?_)
 split
 · rfl
 split <;> rfl
theorem ahead_eq (x y : S33) : belfryref04_ahead.f x.f0 x.f1 x.f2 y.f0 y.f1 y.f2 = some (ltM x y) := by
 unfold belfryref04_ahead.f
 simp only [Lib.toList_data]; by_cases h0 : x.f1.data.toList = y.f1.data.toList; rotate_left
 ·
  rw [if_neg h0]
  congr 1
  rw [Bool.eq_iff_iff, ltM, cmpMat_lt]
  simp [h0]
 rw [if_pos h0]; by_cases h1 : x.f0 = y.f0
 ·
  rw [if_pos h1]
  congr 1
  rw [Bool.eq_iff_iff, ltM, cmpMat_lt, h0, bytesLess_irrefl]
  simp [h1]
 rw [if_neg h1]
 congr 1
 rw [Bool.eq_iff_iff, ltM, cmpMat_lt, h0, bytesLess_irrefl]
 simp [h1]
section
variable (xs : List S33) (e : Int)
def finL (m : List S33) (e : Int) : List S33 × Int := if (m.length : Int) > 8 then ([], 7) else if e = 0 then (m, 0) else ([], e)
theorem ref_both_l1 (hx : xs.length < 1759218604441) (i : Nat) (hi : i < xs.length) (m : List S33) (hm : Stc m) (hml : m.length ≤ 8) (v : List S33 × Int) (hv : Ev (fun k => belfryref04_Both.l0 k xs e (insU xs[i] m) ((i + 1 : Nat) : Int)) v) :
  ∀ (j : Nat), j ≤ m.length → (∀ y, (m.drop j).head? = some y → ltM xs[i] y = true) → Ev (fun k => belfryref04_Both.l1 k xs e m (i : Int) (j : Int)) v
 | 0, hj, hd => by
  have e1 : insU xs[i] m = xs[i] :: m := insU_split xs[i] [] m (fun _ h => by cases h) hd
  rw [e1] at hv
  exact Ev.succ hv (fun k => by
   rw [belfryref04_Both.l1, if_neg (by omega), if_pos (by omega), if_pos (by omega)]; simp only [Option.bind_some, Int.natCast_zero, Int.toNat_zero, List.take_zero, List.drop_zero, List.nil_append, List.length_nil, List.append_nil, List.length_cons]
   rw [if_pos (by omega), if_pos (by omega), if_pos (by omega), if_pos (by omega), if_pos (by omega), rd_at33 xs i hi, wrap_small (n := (i : Int) + 1) (by omega) (by omega), show (i : Int) + 1 = ((i + 1 : Nat) : Int) by omega]
   rfl)
 | j + 1, hj, hd => by
  have ih := ref_both_l1 hx i hi m hm hml v hv j (by omega)
  have hjl : j < m.length := by omega
  refine Ev.succ (g := fun k => if ltM xs[i] m[j] = true then belfryref04_Both.l1 k xs e m (i : Int) (j : Int) else if eqM m[j] xs[i] = true then belfryref04_Both.l0 k xs e m ((i + 1 : Nat) : Int) else belfryref04_Both.l0 k xs e ((m.take (j + 1) ++ [xs[i]]) ++ m.drop (j + 1)) ((i + 1 : Nat) : Int)) ?_ (fun k => by
   have ew : wrap64 (((j + 1 : Nat) : Int) - 1) = (j : Int) := by rw [wrap_small (by omega) (by omega)]; omega
   rw [belfryref04_Both.l1, if_pos (by omega), if_pos (by omega), if_pos (by omega), ew, if_pos (by omega), if_pos (by omega), rd_at33 xs i hi, rd_at33 m j hjl, ahead_eq, Option.bind_some]; by_cases h1 : ltM xs[i] m[j] = true
   · rw [if_pos h1, if_pos h1]
   rw [if_neg h1, if_neg h1, show (m[j].f0 == xs[i].f0 && (m[j].f1.toList == xs[i].f1.toList && m[j].f2.toList == xs[i].f2.toList)) = eqM m[j] xs[i] from rfl]
   by_cases h2 : eqM m[j] xs[i] = true
   · rw [if_pos h2, if_pos h2, wrap_small (n := (i : Int) + 1) (by omega) (by omega), show (i : Int) + 1 = ((i + 1 : Nat) : Int) by omega]
   rw [if_neg h2, if_neg h2, if_pos (by omega), if_pos (by omega)]
   have tl : (m.take (j + 1)).length = j + 1 := by rw [List.length_take]; omega
   have dl : (m.drop (j + 1)).length = m.length - (j + 1) := List.length_drop
   simp only [Option.bind_some, Int.toNat_natCast, List.nil_append, List.length_nil, List.length_append, List.length_singleton, tl, dl]
   rw [if_pos (by omega), if_pos (by omega), if_pos (by omega), wrap_small (n := (i : Int) + 1) (by omega) (by omega), show (i : Int) + 1 = ((i + 1 : Nat) : Int) by omega])
  have hmj : m = m.take j ++ m[j] :: m.drop (j + 1) := by rw [← drop_cons33 m j hjl, List.take_append_drop]
  have hbef : ∀ y ∈ m.take j, ltM y m[j] = true := by
   intro y hy; rw [hmj] at hm
   exact (List.pairwise_append.1 hm).2.2 y hy m[j] (List.mem_cons_self ..)
  by_cases h1 : ltM xs[i] m[j] = true
  ·
   simp only [if_pos h1]
   refine ih (fun y hy => ?_)
   rw [drop_cons33 m j hjl] at hy; cases hy; exact h1
  simp only [if_neg h1]; by_cases h2 : eqM m[j] xs[i] = true
  ·
   simp only [if_pos h2]; have e2 := eqM_eq h2
   have : insU xs[i] m = m := by
    conv => lhs; rw [hmj]
    conv => rhs; rw [hmj]
    rw [← e2]
    exact insU_met m[j] _ _ hbef
   rw [this] at hv; exact hv
  simp only [if_neg h2]
  have hlt : ltM m[j] xs[i] = true := by
   cases hh : ltM m[j] xs[i] with
   | true => rfl
   | false => exact absurd (ltM_tri hh (Bool.eq_false_iff.mpr h1)) (eqM_ne (Bool.eq_false_iff.mpr h2))
  have : insU xs[i] m = (m.take (j + 1) ++ [xs[i]]) ++ m.drop (j + 1) := by
   have := insU_split xs[i] (m.take (j + 1)) (m.drop (j + 1)) (fun y hy => ?_) hd
   ·
    rw [List.take_append_drop] at this
    rw [this]; simp
   rw [List.take_succ_eq_append_getElem hjl] at hy
   rcases List.mem_append.1 hy with hy | hy
   · exact ltM_trans (hbef y hy) hlt
   rw [List.mem_singleton.1 hy]; exact hlt
  rw [this] at hv; exact hv
theorem ref_both_l0 (hx : xs.length < 1759218604441) : ∀ (n i : Nat), i + n = xs.length → ∀ m, Stc m → Ev (fun k => belfryref04_Both.l0 k xs e m (i : Int)) (finL (insAllU m (xs.drop i)) e)
 | 0, i, hn, m, hm => by
  rw [List.drop_of_length_le (show xs.length ≤ i by omega)]
  refine Ev.succ (g := fun k => belfryref04_Both.j1 k xs e m (i : Int) false) ?_ (fun k => by rw [belfryref04_Both.l0, if_neg (by omega)])
  refine Ev.succ (g := fun _ => some (finL m e)) (Ev.const rfl) (fun k => ?_)
  rw [belfryref04_Both.j1, if_neg (by simp)]
  unfold finL
  split
  · rfl
  split <;> rfl
 | n + 1, i, hn, m, hm => by
  have hi : i < xs.length := by omega
  refine Ev.succ (g := fun k => belfryref04_Both.j1 k xs e m (i : Int) (decide ((m.length : Int) ≤ 8))) ?_ (fun k => by rw [belfryref04_Both.l0, if_pos (by omega)])
  by_cases h8 : (m.length : Int) ≤ 8; rotate_left
  ·
   rw [decide_eq_false h8]; have hlen := insAllU_len (xs.drop i) m
   refine Ev.succ (g := fun _ => some (([] : List S33), (7 : Int))) (Ev.const ?_) (fun k => ?_)
   · unfold finL; rw [if_pos (by omega)]
   rw [belfryref04_Both.j1, if_neg (by simp), if_pos (by omega)]
  rw [decide_eq_true h8]; have ih := ref_both_l0 hx n (i + 1) (by omega) (insU xs[i] m) (insU_stc _ m hm); rw [drop_cons33 xs i hi]
  have := ref_both_l1 xs e hx i hi m hm (by omega) _ ih m.length (Nat.le_refl _) (fun y hy => by simp at hy)
  exact Ev.succ this (fun k => by rw [belfryref04_Both.j1, if_pos rfl])
end
theorem ref_both_ev (a b : List S33) (h : a.length + b.length < 1759218604441) : Ev (fun k => belfryref04_Both.f k a b) (bothL a b) := by
 unfold belfryref04_Both.f
 simp only [List.nil_append, List.length_nil, Nat.zero_add, Option.bind_some]
 rw [show (fun k => if a.length < 3518437208883 then (if a.length + b.length < 3518437208883 then (belfryref04_eachMatch.f k (a ++ b)).bind fun t273 => belfryref04_Both.l0 k (a ++ b) t273 ([] : List S33) 0 else none) else none) = fun k => (belfryref04_eachMatch.f k (a ++ b)).bind fun t273 => belfryref04_Both.l0 k (a ++ b) t273 ([] : List S33) 0 from funext fun k => by rw [if_pos (by omega), if_pos (by omega)]]
 have hl : (a ++ b).length = a.length + b.length := List.length_append
 refine Ev.bind (each_ev (a ++ b) (by omega)) ?_
 have := ref_both_l0 (a ++ b) (wrongL (a ++ b)) (by omega) (a ++ b).length 0 (by omega) [] List.Pairwise.nil
 exact this
end Go.Proofs.YtkedidjjhhjdbaaGreatDoor.Pr
end
section
set_option linter.unusedVariables false
set_option linter.unusedSimpArgs false
namespace Go.Proofs.YtkedidjjhhjdbaaGreatDoor.Pr
open Go.RowKit Go.Proofs.YtkedidjjhhjdbaaGreatDoorW.PrintWords Go.Proofs.YtkedidjjhhjdbaaGreatDoorW.PrintLast Go.Proofs.YtkedidjjhhjdbaaGreatDoorW.PrintMore
def slices_Clone_Str.f (l0 : List ByteArray) : Option (List ByteArray) := if l0.length < 8796093022208 then some l0 else none
set_option maxHeartbeats 1000000 in
theorem slices_Clone_Str.calls (A0 : Option Addr) (c0 : Nat) (l0 : List ByteArray) (r : List ByteArray) (w : World) (hr0 : Kd.C Kd.string w A0 l0.length l0) (hc0 : l0.length ≤ c0) (h : slices_Clone_Str.f l0 = some r) :
  Calls Tryz.prog 32 #[.slice A0 l0.length c0] w fun e w' => ∃ v0_ : Value, e = .returned (v0_) ∧ Kd.R Kd.string 9 w' w.heap.size (fun _ => True) v0_ r ∧ Below w.heap.size w w' := by
 unfold slices_Clone_Str.f at h
 by_cases hl : l0.length < 8796093022208; rotate_left
 · rw [if_neg hl] at h; cases h
 rw [if_pos hl] at h
 obtain rfl := Option.some.inj h
 clear h
 have q29 : ∀ (w : World) (a : Option Addr) (n c n' c' : Nat), (binOp .eql 29 (.slice a n c) (.slice none n' c')).run Tryz.prog w = .ok (.bool a.isNone) w := fun w a n c n' c' => Lib.run_eql_slice_nil w _ _ a n c n' c' Tryz.underlying29
 have HL := Aside0.mk hl; clear hl
 cases A0 with
 | none =>
  have h0 : l0.length = 0 := by
   rcases Nat.eq_zero_or_pos l0.length with h0 | h0
   · exact h0
   obtain ⟨ad, e, _⟩ := hr0.2.2 h0
   cases e
  have hn := List.eq_nil_of_length_eq_zero h0; subst hn; clear hr0 h0
  go_enter Tryz.func32, Tryz.ntmps32
  go_wp2; go_ret
  exact ⟨_, rfl, Kd.R_nil _ _ _ _ _, Below.refl _ _⟩
 | some ad =>
  have HR0 := Aside0.mk hr0; clear hr0 hc0
  go_enter Tryz.func32, Tryz.ntmps32
  go_wp2_with (first | ((with_reducible refine gate_builtin (b := .append) (xs := #[.tmp 5, .tmp 6]) rfl ?_); at_builtin; refine Kd.R_append_rows Kd.string (w0 := w) w.heap.size rfl (.tmp 5) (.tmp 6) 29 9 (.string ⟨#[]⟩) 16 rfl Tryz.underlying29 info9 rfl (by decide) (by omega) (.slice (some ⟨w.heap.size, 0, none⟩) 0 0) ([] : List (ByteArray)) l0 _ _ _ (fun _ => True) (fun _ => False) rfl rfl ?aO ?aR (fun _ _ h => h) (fun _ h => h.elim) ?aF ?aB ?aS ?aL ?_; (case aR => exact Kd.C_alloc HR0.out _); (case aB => exact (Below.refl _ _).alloc (Nat.le_refl _) _); (case aF => exact (fun _ _ => trivial)); (case aO => exact flatStr.R' (fun _ _ => trivial) (World.ownsRow_made w #[] 0 (Nat.le_refl _) (Nat.zero_le _) (by simp))); (case aS => simp); (case aL => have := HL.out; (try simp only [List.length_nil, Nat.zero_add]); omega); intro v1 w1 ho hb hg hat))
  go_ret
  exact ⟨_, rfl, by simpa using ho, hb⟩
end Go.Proofs.YtkedidjjhhjdbaaGreatDoor.Pr
end
section
namespace Go.Proofs.YtkedidjjhhjdbaaGreatDoor.Pr
open Go.RowKit Go.Proofs.YtkedidjjhhjdbaaGreatDoorW.PrintWords Go.Proofs.YtkedidjjhhjdbaaGreatDoorW.PrintLast Go.Proofs.YtkedidjjhhjdbaaGreatDoorW.PrintMore
attribute [local go_sem] max2_int min2_int max_two min_two max_three min_three max_four min_four strGtr strLeq strGeq
set_option linter.unusedVariables false
set_option linter.unusedSimpArgs false
def policy_other.f (a0_0 : Int) (a0_1 : ByteArray) (a0_2 : ByteArray) : Option (Int × ByteArray × ByteArray) := if a0_0 = 1 then (some (2, a0_1, a0_2)) else (if a0_0 = 2 then (some (1, a0_1, a0_2)) else (if a0_0 = 3 then (some (4, a0_1, a0_2)) else (if a0_0 = 4 then (some (3, a0_1, a0_2)) else (some (a0_0, a0_1, a0_2)))))
set_option maxHeartbeats 8000000 in
set_option maxRecDepth 100000 in
theorem policy_other.calls (a0_0 : Int) (a0_1 : ByteArray) (a0_2 : ByteArray) (r1 : Int) (r2 : ByteArray) (r3 : ByteArray) (w : World) (h : policy_other.f a0_0 a0_1 a0_2 = some (r1, r2, r3)) :
  Calls Tryz.prog 30 #[.agg #[.int .i64 a0_0, .string a0_1, .string a0_2]] w fun e w' => e = .returned (.agg #[.int .i64 r1, .string r2, .string r3]) ∧ Below w.heap.size w w' := by
 have hu33 := Tryz.underlying33; have HB := Aside0.mk (Below.refl w.heap.size w)
 have H : (if a0_0 = 1 then (some (2, a0_1, a0_2)) else (if a0_0 = 2 then (some (1, a0_1, a0_2)) else (if a0_0 = 3 then (some (4, a0_1, a0_2)) else (if a0_0 = 4 then (some (3, a0_1, a0_2)) else (some (a0_0, a0_1, a0_2)))))) = some (r1, r2, r3) := h
 clear h; by_cases c2 : a0_0 = 1
 ·
  rw [if_pos c2] at H
  have c2b0 : (a0_0 == 1) = true := beq_iff_eq.mpr c2
  have c2b1 : (a0_0 != 1) = false := bne_eq_false_iff_eq.mpr c2
  clear c2
  simp only [Option.some.injEq, Prod.mk.injEq] at H
  obtain ⟨rfl, rfl, rfl⟩ := H
  go_enter Tryz.func30, Tryz.ntmps30
  go_wp2_with (first | ((with_reducible refine gate_dst (N := 1) rfl ?_); refine box_event ?hg (N := 1) ?hd (cs := #[.int .i64 a0_0, .string a0_1, .string a0_2]) (t := 33) ?hr ?_; (case hd => rfl); (case hg => rfl); (case hr => first | (go_simp; done) | (go_simp; rfl)); intro gb117 hg w3 hbox hb; have n0_ := Aside0.mk (below_step bO hb); have n1_ := Aside0.mk (hbox); have n2_ := Aside0.mk ((by rw [hg]; exact (below_size bO) : w.heap.size ≤ gb117)); have n3_ := Aside0.mk ((by rw [hg]; exact (below_size bO) : w.heap.size ≤ gb117)); clear HB; have HB := n0_; have BK117 := n1_; have GW117 := n2_; have GE117 := n3_; clear n0_ n1_ n2_ n3_; clear hb hbox hg) | ((with_reducible refine gate_dst (N := 2) rfl ?_); refine box_event ?hg (N := 2) ?hd (cs := #[.int .i64 0, .string (⟨#[]⟩ : ByteArray), .string (⟨#[]⟩ : ByteArray)]) (t := 33) ?hr ?_; (case hd => rfl); (case hg => rfl); (case hr => first | (go_simp; done) | (go_simp; rfl)); intro gb118 hg w4 hbox hb; have n0_ := Aside0.mk (blk_below (g := gb117) (o := .cells #[.int .i64 a0_0, .string a0_1, .string a0_2] 33 (0, 0)) bK hb); have n1_ := Aside0.mk (below_step bO hb); have n2_ := Aside0.mk (hbox); have n3_ := Aside0.mk ((by rw [hg]; exact (below_size bO) : w.heap.size ≤ gb118)); have n4_ := Aside0.mk ((by rw [hg]; exact (below_size bO) : w.heap.size ≤ gb118)); have n5_ := Aside0.mk ((by rw [hg]; exact Nat.ne_of_lt (blk_lt (g := gb117) (o := .cells #[.int .i64 a0_0, .string a0_1, .string a0_2] 33 (0, 0)) bK) : gb117 ≠ gb118)); have n6_ := Aside0.mk ((by rw [hg]; exact Nat.ne_of_gt (blk_lt (g := gb117) (o := .cells #[.int .i64 a0_0, .string a0_1, .string a0_2] 33 (0, 0)) bK) : gb118 ≠ gb117)); clear BK117; clear HB; have BK117 := n0_; have HB := n1_; have BK118 := n2_; have GW118 := n3_; have GE118 := n4_; have NB117_118 := n5_; have NB118_117 := n6_; clear n0_ n1_ n2_ n3_ n4_ n5_ n6_; clear hb hbox hg; have hnb5 := NB117_118.out; have hnc5 := NB118_117.out; have hcz6_0 : w4.cell? ⟨gb117, 0, none⟩ = some (.int .i64 a0_0) := (blk_cell BK117.out 0).trans rfl; have hcz6_1 : w4.cell? ⟨gb117, 1, none⟩ = some (.string a0_1) := (blk_cell BK117.out 1).trans rfl; have hcz6_2 : w4.cell? ⟨gb117, 2, none⟩ = some (.string a0_2) := (blk_cell BK117.out 2).trans rfl; have hfz6_0 := blk_frozen BK117.out 0; have hfz6_1 := blk_frozen BK117.out 1; have hfz6_2 := blk_frozen BK117.out 2; have hcz7_0 : w4.cell? ⟨gb118, 0, none⟩ = some (.int .i64 0) := (blk_cell BK118.out 0).trans rfl; have hcz7_1 : w4.cell? ⟨gb118, 1, none⟩ = some (.string (⟨#[]⟩ : ByteArray)) := (blk_cell BK118.out 1).trans rfl; have hcz7_2 : w4.cell? ⟨gb118, 2, none⟩ = some (.string (⟨#[]⟩ : ByteArray)) := (blk_cell BK118.out 2).trans rfl; have hfz7_0 := blk_frozen BK118.out 0; have hfz7_1 := blk_frozen BK118.out 1; have hfz7_2 := blk_frozen BK118.out 2))
  refine bodyPost_ret (results_cell_row rfl _ _ gb118 33 #[.int .i64 2, .string a0_1, .string a0_2] (0, 0) _ rfl (by (with_reducible repeat (first | refine blk_drewN ?_ _ | refine blk_drew ?_ | refine blk_alloc ?_ _)); refine blk_put (cs := #[.int .i64 2, .string a0_1, .string (⟨#[]⟩ : ByteArray)]) ?_ 2 _ rfl; (with_reducible repeat (first | refine blk_drewN ?_ _ | refine blk_drew ?_ | refine blk_alloc ?_ _)); refine blk_put (cs := #[.int .i64 2, .string (⟨#[]⟩ : ByteArray), .string (⟨#[]⟩ : ByteArray)]) ?_ 1 _ rfl; (with_reducible repeat (first | refine blk_drewN ?_ _ | refine blk_drew ?_ | refine blk_alloc ?_ _)); refine blk_put (cs := #[.int .i64 0, .string (⟨#[]⟩ : ByteArray), .string (⟨#[]⟩ : ByteArray)]) ?_ 0 _ rfl; (with_reducible repeat (first | refine blk_drewN ?_ _ | refine blk_drew ?_ | refine blk_alloc ?_ _)); refine blk_far ?_ NB118_117.out _; (with_reducible repeat (first | refine blk_drewN ?_ _ | refine blk_drew ?_ | refine blk_alloc ?_ _)); exact BK118.out) Tryz.underlying33 rfl (by kernel_rfl)) rfl ?_
  exact ⟨eR, bO⟩
 rw [if_neg c2] at H
 have c2b0 : (a0_0 == 1) = false := beq_eq_false_iff_ne.mpr c2
 have c2b1 : (a0_0 != 1) = true := bne_iff_ne.mpr c2
 by_cases c8 : a0_0 = 2
 ·
  rw [if_pos c8] at H
  have c8b0 : (a0_0 == 2) = true := beq_iff_eq.mpr c8
  have c8b1 : (a0_0 != 2) = false := bne_eq_false_iff_eq.mpr c8
  clear c8
  simp only [Option.some.injEq, Prod.mk.injEq] at H
  obtain ⟨rfl, rfl, rfl⟩ := H
  go_enter Tryz.func30, Tryz.ntmps30
  go_wp2_with (first | ((with_reducible refine gate_dst (N := 1) rfl ?_); refine box_event ?hg (N := 1) ?hd (cs := #[.int .i64 a0_0, .string a0_1, .string a0_2]) (t := 33) ?hr ?_; (case hd => rfl); (case hg => rfl); (case hr => first | (go_simp; done) | (go_simp; rfl)); intro gb117 hg w9 hbox hb; have n0_ := Aside0.mk (below_step bO hb); have n1_ := Aside0.mk (hbox); have n2_ := Aside0.mk ((by rw [hg]; exact (below_size bO) : w.heap.size ≤ gb117)); have n3_ := Aside0.mk ((by rw [hg]; exact (below_size bO) : w.heap.size ≤ gb117)); clear HB; have HB := n0_; have BK117 := n1_; have GW117 := n2_; have GE117 := n3_; clear n0_ n1_ n2_ n3_; clear hb hbox hg) | ((with_reducible refine gate_dst (N := 2) rfl ?_); refine box_event ?hg (N := 2) ?hd (cs := #[.int .i64 0, .string (⟨#[]⟩ : ByteArray), .string (⟨#[]⟩ : ByteArray)]) (t := 33) ?hr ?_; (case hd => rfl); (case hg => rfl); (case hr => first | (go_simp; done) | (go_simp; rfl)); intro gb118 hg w10 hbox hb; have n0_ := Aside0.mk (blk_below (g := gb117) (o := .cells #[.int .i64 a0_0, .string a0_1, .string a0_2] 33 (0, 0)) bK hb); have n1_ := Aside0.mk (below_step bO hb); have n2_ := Aside0.mk (hbox); have n3_ := Aside0.mk ((by rw [hg]; exact (below_size bO) : w.heap.size ≤ gb118)); have n4_ := Aside0.mk ((by rw [hg]; exact (below_size bO) : w.heap.size ≤ gb118)); have n5_ := Aside0.mk ((by rw [hg]; exact Nat.ne_of_lt (blk_lt (g := gb117) (o := .cells #[.int .i64 a0_0, .string a0_1, .string a0_2] 33 (0, 0)) bK) : gb117 ≠ gb118)); have n6_ := Aside0.mk ((by rw [hg]; exact Nat.ne_of_gt (blk_lt (g := gb117) (o := .cells #[.int .i64 a0_0, .string a0_1, .string a0_2] 33 (0, 0)) bK) : gb118 ≠ gb117)); clear BK117; clear HB; have BK117 := n0_; have HB := n1_; have BK118 := n2_; have GW118 := n3_; have GE118 := n4_; have NB117_118 := n5_; have NB118_117 := n6_; clear n0_ n1_ n2_ n3_ n4_ n5_ n6_; clear hb hbox hg; have hnb11 := NB117_118.out; have hnc11 := NB118_117.out; have hcz12_0 : w10.cell? ⟨gb117, 0, none⟩ = some (.int .i64 a0_0) := (blk_cell BK117.out 0).trans rfl; have hcz12_1 : w10.cell? ⟨gb117, 1, none⟩ = some (.string a0_1) := (blk_cell BK117.out 1).trans rfl; have hcz12_2 : w10.cell? ⟨gb117, 2, none⟩ = some (.string a0_2) := (blk_cell BK117.out 2).trans rfl; have hfz12_0 := blk_frozen BK117.out 0; have hfz12_1 := blk_frozen BK117.out 1; have hfz12_2 := blk_frozen BK117.out 2; have hcz13_0 : w10.cell? ⟨gb118, 0, none⟩ = some (.int .i64 0) := (blk_cell BK118.out 0).trans rfl; have hcz13_1 : w10.cell? ⟨gb118, 1, none⟩ = some (.string (⟨#[]⟩ : ByteArray)) := (blk_cell BK118.out 1).trans rfl; have hcz13_2 : w10.cell? ⟨gb118, 2, none⟩ = some (.string (⟨#[]⟩ : ByteArray)) := (blk_cell BK118.out 2).trans rfl; have hfz13_0 := blk_frozen BK118.out 0; have hfz13_1 := blk_frozen BK118.out 1; have hfz13_2 := blk_frozen BK118.out 2))
  refine bodyPost_ret (results_cell_row rfl _ _ gb118 33 #[.int .i64 1, .string a0_1, .string a0_2] (0, 0) _ rfl (by (with_reducible repeat (first | refine blk_drewN ?_ _ | refine blk_drew ?_ | refine blk_alloc ?_ _)); refine blk_put (cs := #[.int .i64 1, .string a0_1, .string (⟨#[]⟩ : ByteArray)]) ?_ 2 _ rfl; (with_reducible repeat (first | refine blk_drewN ?_ _ | refine blk_drew ?_ | refine blk_alloc ?_ _)); refine blk_put (cs := #[.int .i64 1, .string (⟨#[]⟩ : ByteArray), .string (⟨#[]⟩ : ByteArray)]) ?_ 1 _ rfl; (with_reducible repeat (first | refine blk_drewN ?_ _ | refine blk_drew ?_ | refine blk_alloc ?_ _)); refine blk_put (cs := #[.int .i64 0, .string (⟨#[]⟩ : ByteArray), .string (⟨#[]⟩ : ByteArray)]) ?_ 0 _ rfl; (with_reducible repeat (first | refine blk_drewN ?_ _ | refine blk_drew ?_ | refine blk_alloc ?_ _)); refine blk_far ?_ NB118_117.out _; (with_reducible repeat (first | refine blk_drewN ?_ _ | refine blk_drew ?_ | refine blk_alloc ?_ _)); exact BK118.out) Tryz.underlying33 rfl (by kernel_rfl)) rfl ?_
  exact ⟨eR, bO⟩
 rw [if_neg c8] at H
 have c8b0 : (a0_0 == 2) = false := beq_eq_false_iff_ne.mpr c8
 have c8b1 : (a0_0 != 2) = true := bne_iff_ne.mpr c8
 by_cases c14 : a0_0 = 3
 ·
  rw [if_pos c14] at H
  have c14b0 : (a0_0 == 3) = true := beq_iff_eq.mpr c14
  have c14b1 : (a0_0 != 3) = false := bne_eq_false_iff_eq.mpr c14
  clear c14
  simp only [Option.some.injEq, Prod.mk.injEq] at H
  obtain ⟨rfl, rfl, rfl⟩ := H
  go_enter Tryz.func30, Tryz.ntmps30
  go_wp2_with (first | ((with_reducible refine gate_dst (N := 1) rfl ?_); refine box_event ?hg (N := 1) ?hd (cs := #[.int .i64 a0_0, .string a0_1, .string a0_2]) (t := 33) ?hr ?_; (case hd => rfl); (case hg => rfl); (case hr => first | (go_simp; done) | (go_simp; rfl)); intro gb117 hg w15 hbox hb; have n0_ := Aside0.mk (below_step bO hb); have n1_ := Aside0.mk (hbox); have n2_ := Aside0.mk ((by rw [hg]; exact (below_size bO) : w.heap.size ≤ gb117)); have n3_ := Aside0.mk ((by rw [hg]; exact (below_size bO) : w.heap.size ≤ gb117)); clear HB; have HB := n0_; have BK117 := n1_; have GW117 := n2_; have GE117 := n3_; clear n0_ n1_ n2_ n3_; clear hb hbox hg) | ((with_reducible refine gate_dst (N := 2) rfl ?_); refine box_event ?hg (N := 2) ?hd (cs := #[.int .i64 0, .string (⟨#[]⟩ : ByteArray), .string (⟨#[]⟩ : ByteArray)]) (t := 33) ?hr ?_; (case hd => rfl); (case hg => rfl); (case hr => first | (go_simp; done) | (go_simp; rfl)); intro gb118 hg w16 hbox hb; have n0_ := Aside0.mk (blk_below (g := gb117) (o := .cells #[.int .i64 a0_0, .string a0_1, .string a0_2] 33 (0, 0)) bK hb); have n1_ := Aside0.mk (below_step bO hb); have n2_ := Aside0.mk (hbox); have n3_ := Aside0.mk ((by rw [hg]; exact (below_size bO) : w.heap.size ≤ gb118)); have n4_ := Aside0.mk ((by rw [hg]; exact (below_size bO) : w.heap.size ≤ gb118)); have n5_ := Aside0.mk ((by rw [hg]; exact Nat.ne_of_lt (blk_lt (g := gb117) (o := .cells #[.int .i64 a0_0, .string a0_1, .string a0_2] 33 (0, 0)) bK) : gb117 ≠ gb118)); have n6_ := Aside0.mk ((by rw [hg]; exact Nat.ne_of_gt (blk_lt (g := gb117) (o := .cells #[.int .i64 a0_0, .string a0_1, .string a0_2] 33 (0, 0)) bK) : gb118 ≠ gb117)); clear BK117; clear HB; have BK117 := n0_; have HB := n1_; have BK118 := n2_; have GW118 := n3_; have GE118 := n4_; have NB117_118 := n5_; have NB118_117 := n6_; clear n0_ n1_ n2_ n3_ n4_ n5_ n6_; clear hb hbox hg; have hnb17 := NB117_118.out; have hnc17 := NB118_117.out; have hcz18_0 : w16.cell? ⟨gb117, 0, none⟩ = some (.int .i64 a0_0) := (blk_cell BK117.out 0).trans rfl; have hcz18_1 : w16.cell? ⟨gb117, 1, none⟩ = some (.string a0_1) := (blk_cell BK117.out 1).trans rfl; have hcz18_2 : w16.cell? ⟨gb117, 2, none⟩ = some (.string a0_2) := (blk_cell BK117.out 2).trans rfl; have hfz18_0 := blk_frozen BK117.out 0; have hfz18_1 := blk_frozen BK117.out 1; have hfz18_2 := blk_frozen BK117.out 2; have hcz19_0 : w16.cell? ⟨gb118, 0, none⟩ = some (.int .i64 0) := (blk_cell BK118.out 0).trans rfl; have hcz19_1 : w16.cell? ⟨gb118, 1, none⟩ = some (.string (⟨#[]⟩ : ByteArray)) := (blk_cell BK118.out 1).trans rfl; have hcz19_2 : w16.cell? ⟨gb118, 2, none⟩ = some (.string (⟨#[]⟩ : ByteArray)) := (blk_cell BK118.out 2).trans rfl; have hfz19_0 := blk_frozen BK118.out 0; have hfz19_1 := blk_frozen BK118.out 1; have hfz19_2 := blk_frozen BK118.out 2))
  refine bodyPost_ret (results_cell_row rfl _ _ gb118 33 #[.int .i64 4, .string a0_1, .string a0_2] (0, 0) _ rfl (by (with_reducible repeat (first | refine blk_drewN ?_ _ | refine blk_drew ?_ | refine blk_alloc ?_ _)); refine blk_put (cs := #[.int .i64 4, .string a0_1, .string (⟨#[]⟩ : ByteArray)]) ?_ 2 _ rfl; (with_reducible repeat (first | refine blk_drewN ?_ _ | refine blk_drew ?_ | refine blk_alloc ?_ _)); refine blk_put (cs := #[.int .i64 4, .string (⟨#[]⟩ : ByteArray), .string (⟨#[]⟩ : ByteArray)]) ?_ 1 _ rfl; (with_reducible repeat (first | refine blk_drewN ?_ _ | refine blk_drew ?_ | refine blk_alloc ?_ _)); refine blk_put (cs := #[.int .i64 0, .string (⟨#[]⟩ : ByteArray), .string (⟨#[]⟩ : ByteArray)]) ?_ 0 _ rfl; (with_reducible repeat (first | refine blk_drewN ?_ _ | refine blk_drew ?_ | refine blk_alloc ?_ _)); refine blk_far ?_ NB118_117.out _; (with_reducible repeat (first | refine blk_drewN ?_ _ | refine blk_drew ?_ | refine blk_alloc ?_ _)); exact BK118.out) Tryz.underlying33 rfl (by kernel_rfl)) rfl ?_
  exact ⟨eR, bO⟩
 rw [if_neg c14] at H
 have c14b0 : (a0_0 == 3) = false := beq_eq_false_iff_ne.mpr c14
 have c14b1 : (a0_0 != 3) = true := bne_iff_ne.mpr c14
 by_cases c20 : a0_0 = 4; rotate_left
 ·
  rw [if_neg c20] at H
  have c20b0 : (a0_0 == 4) = false := beq_eq_false_iff_ne.mpr c20
  have c20b1 : (a0_0 != 4) = true := bne_iff_ne.mpr c20
  simp only [Option.some.injEq, Prod.mk.injEq] at H
  obtain ⟨rfl, rfl, rfl⟩ := H
  go_enter Tryz.func30, Tryz.ntmps30
  go_wp2_with (first | ((with_reducible refine gate_dst (N := 1) rfl ?_); refine box_event ?hg (N := 1) ?hd (cs := #[.int .i64 a0_0, .string a0_1, .string a0_2]) (t := 33) ?hr ?_; (case hd => rfl); (case hg => rfl); (case hr => first | (go_simp; done) | (go_simp; rfl)); intro gb117 hg w26 hbox hb; have n0_ := Aside0.mk (below_step bO hb); have n1_ := Aside0.mk (hbox); have n2_ := Aside0.mk ((by rw [hg]; exact (below_size bO) : w.heap.size ≤ gb117)); have n3_ := Aside0.mk ((by rw [hg]; exact (below_size bO) : w.heap.size ≤ gb117)); clear HB; have HB := n0_; have BK117 := n1_; have GW117 := n2_; have GE117 := n3_; clear n0_ n1_ n2_ n3_; clear hb hbox hg) | ((with_reducible refine gate_dst (N := 2) rfl ?_); refine box_event ?hg (N := 2) ?hd (cs := #[.int .i64 0, .string (⟨#[]⟩ : ByteArray), .string (⟨#[]⟩ : ByteArray)]) (t := 33) ?hr ?_; (case hd => rfl); (case hg => rfl); (case hr => first | (go_simp; done) | (go_simp; rfl)); intro gb118 hg w27 hbox hb; have n0_ := Aside0.mk (blk_below (g := gb117) (o := .cells #[.int .i64 a0_0, .string a0_1, .string a0_2] 33 (0, 0)) bK hb); have n1_ := Aside0.mk (below_step bO hb); have n2_ := Aside0.mk (hbox); have n3_ := Aside0.mk ((by rw [hg]; exact (below_size bO) : w.heap.size ≤ gb118)); have n4_ := Aside0.mk ((by rw [hg]; exact (below_size bO) : w.heap.size ≤ gb118)); have n5_ := Aside0.mk ((by rw [hg]; exact Nat.ne_of_lt (blk_lt (g := gb117) (o := .cells #[.int .i64 a0_0, .string a0_1, .string a0_2] 33 (0, 0)) bK) : gb117 ≠ gb118)); have n6_ := Aside0.mk ((by rw [hg]; exact Nat.ne_of_gt (blk_lt (g := gb117) (o := .cells #[.int .i64 a0_0, .string a0_1, .string a0_2] 33 (0, 0)) bK) : gb118 ≠ gb117)); clear BK117; clear HB; have BK117 := n0_; have HB := n1_; have BK118 := n2_; have GW118 := n3_; have GE118 := n4_; have NB117_118 := n5_; have NB118_117 := n6_; clear n0_ n1_ n2_ n3_ n4_ n5_ n6_; clear hb hbox hg; have hnb28 := NB117_118.out; have hnc28 := NB118_117.out; have hcz29_0 : w27.cell? ⟨gb117, 0, none⟩ = some (.int .i64 a0_0) := (blk_cell BK117.out 0).trans rfl; have hcz29_1 : w27.cell? ⟨gb117, 1, none⟩ = some (.string a0_1) := (blk_cell BK117.out 1).trans rfl; have hcz29_2 : w27.cell? ⟨gb117, 2, none⟩ = some (.string a0_2) := (blk_cell BK117.out 2).trans rfl; have hfz29_0 := blk_frozen BK117.out 0; have hfz29_1 := blk_frozen BK117.out 1; have hfz29_2 := blk_frozen BK117.out 2; have hcz30_0 : w27.cell? ⟨gb118, 0, none⟩ = some (.int .i64 0) := (blk_cell BK118.out 0).trans rfl; have hcz30_1 : w27.cell? ⟨gb118, 1, none⟩ = some (.string (⟨#[]⟩ : ByteArray)) := (blk_cell BK118.out 1).trans rfl; have hcz30_2 : w27.cell? ⟨gb118, 2, none⟩ = some (.string (⟨#[]⟩ : ByteArray)) := (blk_cell BK118.out 2).trans rfl; have hfz30_0 := blk_frozen BK118.out 0; have hfz30_1 := blk_frozen BK118.out 1; have hfz30_2 := blk_frozen BK118.out 2))
  refine bodyPost_ret (results_cell_row rfl _ _ gb118 33 #[.int .i64 a0_0, .string a0_1, .string a0_2] (0, 0) _ rfl (by (with_reducible repeat (first | refine blk_drewN ?_ _ | refine blk_drew ?_ | refine blk_alloc ?_ _)); refine blk_put (cs := #[.int .i64 a0_0, .string a0_1, .string (⟨#[]⟩ : ByteArray)]) ?_ 2 _ rfl; (with_reducible repeat (first | refine blk_drewN ?_ _ | refine blk_drew ?_ | refine blk_alloc ?_ _)); refine blk_put (cs := #[.int .i64 a0_0, .string (⟨#[]⟩ : ByteArray), .string (⟨#[]⟩ : ByteArray)]) ?_ 1 _ rfl; (with_reducible repeat (first | refine blk_drewN ?_ _ | refine blk_drew ?_ | refine blk_alloc ?_ _)); refine blk_put (cs := #[.int .i64 0, .string (⟨#[]⟩ : ByteArray), .string (⟨#[]⟩ : ByteArray)]) ?_ 0 _ rfl; (with_reducible repeat (first | refine blk_drewN ?_ _ | refine blk_drew ?_ | refine blk_alloc ?_ _)); exact BK118.out) Tryz.underlying33 rfl (by kernel_rfl)) rfl ?_
  exact ⟨eR, bO⟩
 rw [if_pos c20] at H
 have c20b0 : (a0_0 == 4) = true := beq_iff_eq.mpr c20
 have c20b1 : (a0_0 != 4) = false := bne_eq_false_iff_eq.mpr c20
 clear c20
 simp only [Option.some.injEq, Prod.mk.injEq] at H
 obtain ⟨rfl, rfl, rfl⟩ := H
 go_enter Tryz.func30, Tryz.ntmps30
 go_wp2_with (first | ((with_reducible refine gate_dst (N := 1) rfl ?_); refine box_event ?hg (N := 1) ?hd (cs := #[.int .i64 a0_0, .string a0_1, .string a0_2]) (t := 33) ?hr ?_; (case hd => rfl); (case hg => rfl); (case hr => first | (go_simp; done) | (go_simp; rfl)); intro gb117 hg w21 hbox hb; have n0_ := Aside0.mk (below_step bO hb); have n1_ := Aside0.mk (hbox); have n2_ := Aside0.mk ((by rw [hg]; exact (below_size bO) : w.heap.size ≤ gb117)); have n3_ := Aside0.mk ((by rw [hg]; exact (below_size bO) : w.heap.size ≤ gb117)); clear HB; have HB := n0_; have BK117 := n1_; have GW117 := n2_; have GE117 := n3_; clear n0_ n1_ n2_ n3_; clear hb hbox hg) | ((with_reducible refine gate_dst (N := 2) rfl ?_); refine box_event ?hg (N := 2) ?hd (cs := #[.int .i64 0, .string (⟨#[]⟩ : ByteArray), .string (⟨#[]⟩ : ByteArray)]) (t := 33) ?hr ?_; (case hd => rfl); (case hg => rfl); (case hr => first | (go_simp; done) | (go_simp; rfl)); intro gb118 hg w22 hbox hb; have n0_ := Aside0.mk (blk_below (g := gb117) (o := .cells #[.int .i64 a0_0, .string a0_1, .string a0_2] 33 (0, 0)) bK hb); have n1_ := Aside0.mk (below_step bO hb); have n2_ := Aside0.mk (hbox); have n3_ := Aside0.mk ((by rw [hg]; exact (below_size bO) : w.heap.size ≤ gb118)); have n4_ := Aside0.mk ((by rw [hg]; exact (below_size bO) : w.heap.size ≤ gb118)); have n5_ := Aside0.mk ((by rw [hg]; exact Nat.ne_of_lt (blk_lt (g := gb117) (o := .cells #[.int .i64 a0_0, .string a0_1, .string a0_2] 33 (0, 0)) bK) : gb117 ≠ gb118)); have n6_ := Aside0.mk ((by rw [hg]; exact Nat.ne_of_gt (blk_lt (g := gb117) (o := .cells #[.int .i64 a0_0, .string a0_1, .string a0_2] 33 (0, 0)) bK) : gb118 ≠ gb117)); clear BK117; clear HB; have BK117 := n0_; have HB := n1_; have BK118 := n2_; have GW118 := n3_; have GE118 := n4_; have NB117_118 := n5_; have NB118_117 := n6_; clear n0_ n1_ n2_ n3_ n4_ n5_ n6_; clear hb hbox hg; have hnb23 := NB117_118.out; have hnc23 := NB118_117.out; have hcz24_0 : w22.cell? ⟨gb117, 0, none⟩ = some (.int .i64 a0_0) := (blk_cell BK117.out 0).trans rfl; have hcz24_1 : w22.cell? ⟨gb117, 1, none⟩ = some (.string a0_1) := (blk_cell BK117.out 1).trans rfl; have hcz24_2 : w22.cell? ⟨gb117, 2, none⟩ = some (.string a0_2) := (blk_cell BK117.out 2).trans rfl; have hfz24_0 := blk_frozen BK117.out 0; have hfz24_1 := blk_frozen BK117.out 1; have hfz24_2 := blk_frozen BK117.out 2; have hcz25_0 : w22.cell? ⟨gb118, 0, none⟩ = some (.int .i64 0) := (blk_cell BK118.out 0).trans rfl; have hcz25_1 : w22.cell? ⟨gb118, 1, none⟩ = some (.string (⟨#[]⟩ : ByteArray)) := (blk_cell BK118.out 1).trans rfl; have hcz25_2 : w22.cell? ⟨gb118, 2, none⟩ = some (.string (⟨#[]⟩ : ByteArray)) := (blk_cell BK118.out 2).trans rfl; have hfz25_0 := blk_frozen BK118.out 0; have hfz25_1 := blk_frozen BK118.out 1; have hfz25_2 := blk_frozen BK118.out 2))
 refine bodyPost_ret (results_cell_row rfl _ _ gb118 33 #[.int .i64 3, .string a0_1, .string a0_2] (0, 0) _ rfl (by (with_reducible repeat (first | refine blk_drewN ?_ _ | refine blk_drew ?_ | refine blk_alloc ?_ _)); refine blk_put (cs := #[.int .i64 3, .string a0_1, .string (⟨#[]⟩ : ByteArray)]) ?_ 2 _ rfl; (with_reducible repeat (first | refine blk_drewN ?_ _ | refine blk_drew ?_ | refine blk_alloc ?_ _)); refine blk_put (cs := #[.int .i64 3, .string (⟨#[]⟩ : ByteArray), .string (⟨#[]⟩ : ByteArray)]) ?_ 1 _ rfl; (with_reducible repeat (first | refine blk_drewN ?_ _ | refine blk_drew ?_ | refine blk_alloc ?_ _)); refine blk_put (cs := #[.int .i64 0, .string (⟨#[]⟩ : ByteArray), .string (⟨#[]⟩ : ByteArray)]) ?_ 0 _ rfl; (with_reducible repeat (first | refine blk_drewN ?_ _ | refine blk_drew ?_ | refine blk_alloc ?_ _)); refine blk_far ?_ NB118_117.out _; (with_reducible repeat (first | refine blk_drewN ?_ _ | refine blk_drew ?_ | refine blk_alloc ?_ _)); exact BK118.out) Tryz.underlying33 rfl (by kernel_rfl)) rfl ?_
 exact ⟨eR, bO⟩
end Go.Proofs.YtkedidjjhhjdbaaGreatDoor.Pr
end
