import Derived.Test.YtkedidjjhhjdbaaGreatDoorWc0
import Derived.Test.YtkedidjjhhjdbaaGreatDoorWc17
import Derived.Test.YtkedidjjhhjdbaaGreatDoorWc32
import Derived.Test.YtkedidjjhhjdbaaGreatDoorWc33
import Derived.Test.YtkedidjjhhjdbaaGreatDoorWc27
import Derived.Test.YtkedidjjhhjdbaaGreatDoorWc28
import Derived.Test.YtkedidjjhhjdbaaGreatDoorWc30
import Derived.Test.YtkedidjjhhjdbaaGreatDoorWc12
import Derived.Test.YtkedidjjhhjdbaaGreatDoorWc31
section
set_option linter.unusedVariables false
set_option linter.unusedSimpArgs false
namespace Go.Proofs.YtkedidjjhhjdbaaGreatDoor.Pr
open Go.RowKit Go.Proofs.YtkedidjjhhjdbaaGreatDoorW.PrintWords Go.Proofs.YtkedidjjhhjdbaaGreatDoorW.PrintLast Go.Proofs.YtkedidjjhhjdbaaGreatDoorW.PrintMore
def allM : List S33 → List S33 → Bool
  | x :: a, y :: b => if eqM x y = true then allM a b else false
  | _, _ => true
def allS : List ByteArray → List ByteArray → Bool
  | x :: a, y :: b => if x.toList = y.toList then allS a b else false
  | _, _ => true
def eqMs (a b : List S33) : Bool := if a.length = b.length then allM a b else false
def eqSs (a b : List ByteArray) : Bool := if a.length = b.length then allS a b else false
theorem allM_refl : ∀ a : List S33, allM a a = true
 | [] => rfl
 | x :: a => by rw [allM, if_pos (eqM_refl x)]; exact allM_refl a
theorem allS_refl : ∀ a : List ByteArray, allS a a = true
 | [] => rfl
 | x :: a => by rw [allS, if_pos rfl]; exact allS_refl a
theorem neg_eqM (x y : S33) : (!(x.f0 == y.f0) || (!(x.f1.toList == y.f1.toList) || (!(x.f2.toList == y.f2.toList)))) = !(eqM x y) := by
 unfold eqM
 cases x.f0 == y.f0 <;> cases x.f1.toList == y.f1.toList <;> cases x.f2.toList == y.f2.toList <;> rfl
theorem wrap_next (i n : Nat) (h : i + 1 ≤ n) (hn : n ≤ 9223372036854775807) : wrap64 ((i : Int) + 1) = ((i + 1 : Nat) : Int) := by rw [wrap_small (n := (i : Int) + 1) (by omega) (by omega)]; omega
theorem sm_l0 (a b : List S33) (e : a.length = b.length) (ha : a.length ≤ 9223372036854775807) : ∀ (n i : Nat), i + n = a.length → Ev (fun k => belfryref04_SameMatch.l0 k a b (i : Int)) (allM (a.drop i) (b.drop i))
 | 0, i, hin => by
  rw [List.drop_of_length_le (show a.length ≤ i by omega)]
  exact Ev.succ (g := fun _ => some true) (Ev.const rfl) (fun k => by rw [belfryref04_SameMatch.l0, if_neg (by omega)])
 | n + 1, i, hin => by
  have hi : i < a.length := by omega
  have hj : i < b.length := by omega
  rw [List.drop_eq_getElem_cons hi, List.drop_eq_getElem_cons hj, allM]; by_cases hm : eqM a[i] b[i] = true; rotate_left
  ·
   rw [if_neg hm]
   exact Ev.succ (g := fun _ => some false) (Ev.const rfl) (fun k => by rw [belfryref04_SameMatch.l0, if_pos (by omega), if_pos (by omega), if_pos (by omega), rd_at33 a i hi, rd_at33 b i hj, neg_eqM, if_pos (by simp [hm])])
  rw [if_pos hm]
  exact Ev.succ (sm_l0 a b e ha n (i + 1) (by omega)) (fun k => by rw [belfryref04_SameMatch.l0, if_pos (by omega), if_pos (by omega), if_pos (by omega), rd_at33 a i hi, rd_at33 b i hj, neg_eqM, hm, if_neg (by simp), wrap_next i a.length (by omega) ha])
theorem sm_ev (a b : List S33) (ha : a.length ≤ 9223372036854775807) : Ev (fun k => belfryref04_SameMatch.f k a b) (eqMs a b) := by
 unfold belfryref04_SameMatch.f eqMs
 by_cases e : a.length = b.length; rotate_left
 ·
  simp only [if_neg e, if_neg (show ¬ (a.length : Int) = (b.length : Int) by omega)]
  exact Ev.const rfl
 simp only [if_pos e, if_pos (show (a.length : Int) = (b.length : Int) by omega)]
 exact sm_l0 a b e ha a.length 0 (by omega)
theorem am_l0 (a b : List S33) (e : a.length = b.length) (ha : a.length ≤ 9223372036854775807) : ∀ (n i : Nat), i + n = a.length → Ev (fun k => api_Matcher_46.l0 k a b (a.length : Int) (i : Int)) (allM (a.drop i) (b.drop i))
 | 0, i, hin => by
  rw [List.drop_of_length_le (show a.length ≤ i by omega)]
  exact Ev.succ (g := fun _ => some true) (Ev.const rfl) (fun k => by rw [api_Matcher_46.l0, if_neg (by omega)])
 | n + 1, i, hin => by
  have hi : i < a.length := by omega
  have hj : i < b.length := by omega
  rw [List.drop_eq_getElem_cons hi, List.drop_eq_getElem_cons hj, allM]; by_cases hm : eqM a[i] b[i] = true; rotate_left
  ·
   rw [if_neg hm]
   exact Ev.succ (g := fun _ => some false) (Ev.const rfl) (fun k => by rw [api_Matcher_46.l0, if_pos (by omega), if_pos (by omega), if_pos (by omega), if_pos (by omega), rd_at33 a i hi, rd_at33 b i hj, neg_eqM, if_pos (by simp [hm])])
  rw [if_pos hm]
  exact Ev.succ (am_l0 a b e ha n (i + 1) (by omega)) (fun k => by rw [api_Matcher_46.l0, if_pos (by omega), if_pos (by omega), if_pos (by omega), if_pos (by omega), rd_at33 a i hi, rd_at33 b i hj, neg_eqM, hm, if_neg (by simp), wrap_next i a.length (by omega) ha])
theorem am_ev (a b : List S33) (ha : a.length ≤ 9223372036854775807) : Ev (fun k => api_Matcher_46.f k a b) (eqMs a b) := by
 unfold api_Matcher_46.f eqMs
 by_cases e : a.length = b.length; rotate_left
 ·
  simp only [if_neg e, if_neg (show ¬ (a.length : Int) = (b.length : Int) by omega)]
  exact Ev.const rfl
 simp only [if_pos e, if_pos (show (a.length : Int) = (b.length : Int) by omega)]
 exact am_l0 a b e ha a.length 0 (by omega)
theorem tx_l0 (a b : List ByteArray) (e : a.length = b.length) (ha : a.length ≤ 9223372036854775807) : ∀ (n i : Nat), i + n = a.length → Ev (fun k => belfryref11_texts.l0 k a b (i : Int)) (allS (a.drop i) (b.drop i))
 | 0, i, hin => by
  rw [List.drop_of_length_le (show a.length ≤ i by omega)]
  exact Ev.succ (g := fun _ => some true) (Ev.const rfl) (fun k => by rw [belfryref11_texts.l0, if_neg (by omega)])
 | n + 1, i, hin => by
  have hi : i < a.length := by omega
  have hj : i < b.length := by omega
  rw [List.drop_eq_getElem_cons hi, List.drop_eq_getElem_cons hj, allS]; by_cases hm : a[i].toList = b[i].toList; rotate_left
  ·
   rw [if_neg hm]
   exact Ev.succ (g := fun _ => some false) (Ev.const rfl) (fun k => by rw [belfryref11_texts.l0, if_pos (by omega), if_pos (by omega), if_pos (by omega), rdOf_at a i hi, rdOf_at b i hj, if_neg hm])
  rw [if_pos hm]
  exact Ev.succ (tx_l0 a b e ha n (i + 1) (by omega)) (fun k => by rw [belfryref11_texts.l0, if_pos (by omega), if_pos (by omega), if_pos (by omega), rdOf_at a i hi, rdOf_at b i hj, if_pos hm, wrap_next i a.length (by omega) ha])
theorem tx_ev (a b : List ByteArray) (ha : a.length ≤ 9223372036854775807) : Ev (fun k => belfryref11_texts.f k a b) (eqSs a b) := by
 unfold belfryref11_texts.f eqSs
 by_cases e : a.length = b.length; rotate_left
 ·
  simp only [if_neg e, if_neg (show ¬ (a.length : Int) = (b.length : Int) by omega)]
  exact Ev.const rfl
 simp only [if_pos e, if_pos (show (a.length : Int) = (b.length : Int) by omega)]
 exact tx_l0 a b e ha a.length 0 (by omega)
theorem se_l0 (a b : List ByteArray) (e : a.length = b.length) (ha : a.length ≤ 9223372036854775807) : ∀ (n i : Nat), i + n = a.length → Ev (fun k => slices_Equal_string_string.l0 k a b (a.length : Int) (i : Int)) (allS (a.drop i) (b.drop i))
 | 0, i, hin => by
  rw [List.drop_of_length_le (show a.length ≤ i by omega)]
  exact Ev.succ (g := fun _ => some true) (Ev.const rfl) (fun k => by rw [slices_Equal_string_string.l0, if_neg (by omega)])
 | n + 1, i, hin => by
  have hi : i < a.length := by omega
  have hj : i < b.length := by omega
  rw [List.drop_eq_getElem_cons hi, List.drop_eq_getElem_cons hj, allS]; by_cases hm : a[i].toList = b[i].toList; rotate_left
  ·
   rw [if_neg hm]
   exact Ev.succ (g := fun _ => some false) (Ev.const rfl) (fun k => by rw [slices_Equal_string_string.l0, if_pos (by omega), if_pos (by omega), if_pos (by omega), if_pos (by omega), rdOf_at a i hi, rdOf_at b i hj, if_neg hm])
  rw [if_pos hm]
  exact Ev.succ (se_l0 a b e ha n (i + 1) (by omega)) (fun k => by rw [slices_Equal_string_string.l0, if_pos (by omega), if_pos (by omega), if_pos (by omega), if_pos (by omega), rdOf_at a i hi, rdOf_at b i hj, if_pos hm, wrap_next i a.length (by omega) ha])
theorem se_ev (a b : List ByteArray) (ha : a.length ≤ 9223372036854775807) : Ev (fun k => slices_Equal_string_string.f k a b) (eqSs a b) := by
 unfold slices_Equal_string_string.f eqSs
 by_cases e : a.length = b.length; rotate_left
 ·
  simp only [if_neg e, if_neg (show ¬ (a.length : Int) = (b.length : Int) by omega)]
  exact Ev.const rfl
 simp only [if_pos e, if_pos (show (a.length : Int) = (b.length : Int) by omega)]
 exact se_l0 a b e ha a.length 0 (by omega)
def ruleEq (x y : S46) : Bool :=
  if x.f0 = y.f0 then if x.f1 = y.f1 then if x.f2.toList = y.f2.toList then if eqMs x.f3 y.f3 = true then eqSs x.f4 y.f4 else false else false else false else false
def allRu : List S46 → List S46 → Bool
  | x :: a, y :: b => if ruleEq x y = true then allRu a b else false
  | _, _ => true
def sameR (l m : List S46) : Bool := if l.length = m.length then allRu l m else false
theorem ruleEq_refl (x : S46) : ruleEq x x = true := by
 unfold ruleEq eqMs eqSs
 simp [allM_refl, allS_refl]
theorem allRu_refl : ∀ a : List S46, allRu a a = true
 | [] => rfl
 | x :: a => by rw [allRu, if_pos (ruleEq_refl x)]; exact allRu_refl a
theorem sameR_refl (l : List S46) : sameR l l = true := by rw [sameR, if_pos rfl]; exact allRu_refl l
def Small46 (x : S46) : Prop := x.f3.length ≤ 9223372036854775807 ∧ x.f4.length ≤ 9223372036854775807
theorem ref_same_go : ∀ l m : List S46, (∀ x ∈ l, Small46 x) → Ev (fun k => belfryref11_Same.go k l m) (allRu l m)
 | [], m, _ => by
  cases m <;> exact Ev.const rfl
 | x :: a, [], _ => Ev.const rfl
 | x :: a, y :: b, hs => by
  have hx := hs x (List.mem_cons_self ..)
  have ih := ref_same_go a b (fun z hz => hs z (List.mem_cons_of_mem _ hz))
  unfold belfryref11_Same.go allRu ruleEq
  by_cases h0 : x.f0 = y.f0; rotate_left
  · simp only [if_neg h0]; exact Ev.const rfl
  simp only [if_pos h0]; by_cases h1 : x.f1 = y.f1; rotate_left
  · simp only [if_neg h1]; exact Ev.const rfl
  simp only [if_pos h1]; by_cases h2 : x.f2.toList = y.f2.toList; rotate_left
  · simp only [if_neg h2]; exact Ev.const rfl
  simp only [if_pos h2]
  refine Ev.bind (sm_ev x.f3 y.f3 hx.1) ?_
  by_cases h3 : eqMs x.f3 y.f3 = true; rotate_left
  · simp only [if_neg h3]; exact Ev.const rfl
  simp only [if_pos h3]
  refine Ev.bind (tx_ev x.f4 y.f4 hx.2) ?_
  by_cases h4 : eqSs x.f4 y.f4 = true
  · simp only [if_pos h4]; exact ih
  simp only [if_neg h4]; exact Ev.const rfl
theorem ref_same_ev (l m : List S46) (hs : ∀ x ∈ l, Small46 x) : Ev (fun k => belfryref11_Same.f k l m) (sameR l m) := by
 unfold belfryref11_Same.f sameR
 by_cases e : l.length = m.length; rotate_left
 · simp only [if_neg e]; exact Ev.const rfl
 simp only [if_pos e]; exact ref_same_go l m hs
theorem same1_ev (x y : S46) (hx : Small46 x) : Ev (fun k => policy_Same_1.f k x.f0 x.f1 x.f2 x.f3 x.f4 y.f0 y.f1 y.f2 y.f3 y.f4) (ruleEq x y) := by
 unfold policy_Same_1.f ruleEq
 by_cases h0 : x.f0 = y.f0; rotate_left
 · simp only [if_neg h0, if_neg (show ¬ (x.f0 == y.f0) = true by simp [h0])]; exact Ev.const rfl
 simp only [if_pos h0, if_pos (show (x.f0 == y.f0) = true by simp [h0])]
 by_cases h1 : x.f1 = y.f1; rotate_left
 · simp only [if_neg h1]; exact Ev.const rfl
 simp only [if_pos h1]; by_cases h2 : x.f2.toList = y.f2.toList; rotate_left
 · simp only [if_neg h2]; exact Ev.const rfl
 simp only [if_pos h2]
 refine Ev.bind (am_ev x.f3 y.f3 hx.1) ?_
 by_cases h3 : eqMs x.f3 y.f3 = true; rotate_left
 · simp only [if_neg h3]; exact Ev.const rfl
 simp only [if_pos h3]
 exact Ev.bind (se_ev x.f4 y.f4 hx.2) (Ev.const rfl)
theorem rule_l0 (l m : List S46) (e : l.length = m.length) (hl : l.length ≤ 9223372036854775807) (hs : ∀ x ∈ l, Small46 x) : ∀ (n i : Nat), i + n = l.length → Ev (fun k => api_Rule.l0 k m l (l.length : Int) (i : Int)) (allRu (l.drop i) (m.drop i))
 | 0, i, hin => by
  rw [List.drop_of_length_le (show l.length ≤ i by omega)]
  exact Ev.succ (g := fun _ => some true) (Ev.const rfl) (fun k => by rw [api_Rule.l0, if_neg (by omega)])
 | n + 1, i, hin => by
  have hi : i < l.length := by omega
  have hj : i < m.length := by omega
  refine Ev.succ (g := fun k => (policy_Same_1.f k l[i].f0 l[i].f1 l[i].f2 l[i].f3 l[i].f4 m[i].f0 m[i].f1 m[i].f2 m[i].f3 m[i].f4).bind fun t467 => (if t467 = true then (api_Rule.l0 k m l (l.length : Int) ((i + 1 : Nat) : Int)) else (some false))) ?_ (fun k => by rw [api_Rule.l0, if_pos (by omega), if_pos (by omega), if_pos (by omega), if_pos (by omega), rd_at46 l i hi, rd_at46 m i hj, wrap_next i l.length (by omega) hl])
  refine Ev.bind (same1_ev l[i] m[i] (hs _ (List.getElem_mem hi))) ?_
  rw [List.drop_eq_getElem_cons hi, List.drop_eq_getElem_cons hj, allRu]; by_cases hm : ruleEq l[i] m[i] = true; rotate_left
  · simp only [if_neg hm]; exact Ev.const rfl
  simp only [if_pos hm]; exact rule_l0 l m e hl hs n (i + 1) (by omega)
theorem same_ev (l m : List S46) (hl : l.length ≤ 9223372036854775807) (hs : ∀ x ∈ l, Small46 x) : Ev (fun k => policy_Same.f k l m) (sameR l m) := by
 unfold policy_Same.f
 refine Ev.bind (g := fun _ t => some t) ?_ (Ev.const rfl)
 unfold api_Rule.f sameR
 by_cases e : l.length = m.length; rotate_left
 ·
  simp only [if_neg e, if_neg (show ¬ (l.length : Int) = (m.length : Int) by omega)]
  exact Ev.const rfl
 simp only [if_pos e, if_pos (show (l.length : Int) = (m.length : Int) by omega)]
 exact rule_l0 l m e hl hs l.length 0 (by omega)
theorem lent_l0G (l : List S46) (hl : l.length < 1759218604441) (hs : ∀ x ∈ l, x.f3.length < 3518437208883 ∧ x.f4.length < 8796093022208) : ∀ (n i : Nat), i + n = l.length → Ev (fun k => belfryref11_Lent.l0 k l (l.take i) (i : Int)) l
 | 0, i, hin => by
  rw [List.take_of_length_le (show l.length ≤ i by omega)]
  exact Ev.succ (g := fun _ => some l) (Ev.const rfl) (fun k => by rw [belfryref11_Lent.l0, if_neg (by omega)])
 | n + 1, i, hin => by
  have hi : i < l.length := by omega
  have hx := hs l[i] (List.getElem_mem hi)
  refine Ev.succ (lent_l0G l hl hs n (i + 1) (by omega)) (fun k => ?_)
  rw [belfryref11_Lent.l0, if_pos (by omega), if_pos (by omega), rd_at46 l i hi]; simp only [List.nil_append, List.length_nil, Nat.zero_add, List.length_take]
  rw [if_pos hx.1, if_pos hx.2, if_pos (by omega), wrap_small (n := (i : Int) + 1) (by omega) (by omega), show (i : Int) + 1 = ((i + 1 : Nat) : Int) by omega, List.take_succ_eq_append_getElem hi]
theorem lent_evG (l : List S46) (hl : l.length < 1759218604441) (hs : ∀ x ∈ l, x.f3.length < 3518437208883 ∧ x.f4.length < 8796093022208) : Ev (fun k => belfryref11_Lent.f k l) l := lent_l0G l hl hs l.length 0 (by omega)
end Go.Proofs.YtkedidjjhhjdbaaGreatDoor.Pr
end
section
set_option linter.unusedVariables false
set_option linter.unusedSimpArgs false
namespace Go.Proofs.YtkedidjjhhjdbaaGreatDoor.Pr
open Go.RowKit Go.Proofs.YtkedidjjhhjdbaaGreatDoorW.PrintWords Go.Proofs.YtkedidjjhhjdbaaGreatDoorW.PrintLast Go.Proofs.YtkedidjjhhjdbaaGreatDoorW.PrintMore
def belfrylaw11_PolicyWrites.T9 : Bool × List (List Nat × List Nat) := (true, [([], []), ([], []), ([0, 1], [0, 1]), ([2], [2]), ([3], [3]), ([], []), ([], []), ([5, 6], [5, 6]), ([7], [7]), ([8, 4], [8]), ([4, 9], [4, 9])])
def belfrylaw11_PolicyWrites.B9 : List Nat := [0, 0, 3, 7, 15, 0, 0, 96, 224, 511, 1023]
set_option maxRecDepth 100000 in
theorem belfrylaw11_PolicyWrites.tab9 : rtab .any (opsOf Tryz.f5 9) = belfrylaw11_PolicyWrites.T9 := by kernel_rfl
set_option maxRecDepth 100000 in
theorem belfrylaw11_PolicyWrites.bits9 : waitsOk belfrylaw11_PolicyWrites.T9.2 belfrylaw11_PolicyWrites.B9 = true := by kernel_rfl
structure WrF (k : Nat) (l m : List S46) (kd : Int) : Prop where
  lent : belfryref11_Lent.f k l = some l
  pr : ∃ t e n, policy_Print.f k l = some (t, e, n) ∧ belfryref11_Print.f k l = some (t, e, n)
  ps : ∃ b, policy_Same.f k l m = some b ∧ belfryref11_Same.f k l m = some b
  pl : policy_Same.f k l l = some true
  rl : belfryref11_Same.f k l l = some true
  kd : ∃ t, policy_Kind.f kd = some t ∧ belfryref11_Kind.f kd = some t
  right : ∀ x ∈ l, ∃ e, policy_Right.f k x.f0 x.f1 x.f2 x.f3 x.f4 = some e ∧ belfryref11_Right.f k x.f0 x.f1 x.f2 x.f3 x.f4 = some e
set_option maxHeartbeats 8000000 in
set_option maxRecDepth 100000 in
theorem writes_walk (k kk : Nat) (A : Option Addr) (c : Nat) (l : List S46) (B : Option Addr) (d : Nat) (m : List S46) (kd : Int) (w : World) (hr : Kd.C k46 w A l.length l) (hc : l.length ≤ c) (hr2 : Kd.C k46 w B m.length m) (hc2 : m.length ≤ d) (hk : belfrylaw11_known.f kk = some true)
  (h : WrF k l m kd) (he : EnvW w) :
  Calls Tryz.prog 5 #[.slice A l.length c, .slice B m.length d, .int .i64 kd] w fun e w' => e = .returned (.bool true) ∧ Below w.heap.size w w' := by
 have HR := Aside0.mk hr; have HM := Aside0.mk hr2; have HE := Aside0.mk he; have HK := Aside0.mk hk
 have hlm : l.length ≤ 9223372036854775807 := hr.2.1
 obtain ⟨tp, ep, np, hpp, hrp⟩ := h.pr
 obtain ⟨bs, hps, hrs⟩ := h.ps
 obtain ⟨tk, hpk, hrk⟩ := h.kd
 have HP := Aside0.mk (And.intro hpp hrp); have HS := Aside0.mk (And.intro hps hrs); have HKD := Aside0.mk (And.intro hpk hrk); have HF := Aside0.mk h; clear hr hr2 he hk h hpp hrp hps hrs hpk hrk
 go_enter Tryz.func5, Tryz.ntmps5
 go_wp2_with fail
 refine (belfryref11_Lent.calls k A c l l w HR.out hc HF.out.lent).mono ?_
 rintro e w1 ⟨uo, rfl, ho, hb1⟩
 have HO := Aside0.mk ho; have HB := Aside0.mk hb1; clear ho hb1
 obtain ⟨AO, cO, rfl⟩ := Kd.S_slice HO.out
 go_wp2_with fail
 refine (policy_Print.calls k AO cO l tp ep np w1 (Kd.S_reads' HO.out).2.2 (Kd.S_reads' HO.out).2.1 HP.out.1 (env_below HE.out HB.out)).mono ?_
 rintro e w2 ⟨rfl, hb2⟩
 have HB1 := Aside0.mk hb2; clear hb2
 go_wp2_with fail
 refine (belfryref11_Print.calls k A c l tp ep np w2 (Kd.C_below HR.out (below_step HB.out HB1.out)) hc HP.out.2).mono ?_
 rintro e w3 ⟨rfl, hb2⟩
 replace HB1 := Aside0.mk (below_step HB1.out hb2)
 clear hb2
 go_wp2_with fail
 refine (policy_Kind.calls kd tk w3 HKD.out.1).mono ?_
 rintro e w4 ⟨rfl, ⟨n4, rfl⟩⟩
 replace HB1 := Aside0.mk (pw_below_drewN HB1.out n4)
 generalize w3.drewN n4 = w4 at HB1 ⊢
 go_wp2_with fail
 refine (belfryref11_Kind.calls kd tk w4 HKD.out.2).mono ?_
 rintro e w5 ⟨rfl, hb2⟩
 replace HB1 := Aside0.mk (below_step HB1.out hb2)
 clear hb2
 go_wp2_with fail
 refine (policy_Same.calls k AO cO l B d m bs w5 (Kd.C_below (Kd.S_reads' HO.out).2.2 HB1.out) (Kd.S_reads' HO.out).2.1 (Kd.C_below HM.out (below_step HB.out HB1.out)) hc2 HS.out.1).mono ?_
 rintro e w6 ⟨rfl, hb2⟩
 replace HB1 := Aside0.mk (below_step HB1.out hb2)
 clear hb2
 go_wp2_with fail
 refine (belfryref11_Same.calls k A B c d l m bs w6 (Kd.C_below HR.out (below_step HB.out HB1.out)) (Kd.C_below HM.out (below_step HB.out HB1.out)) hc hc2 HS.out.2).mono ?_
 rintro e w7 ⟨rfl, ⟨n7, rfl⟩⟩
 replace HB1 := Aside0.mk (pw_below_drewN HB1.out n7)
 generalize w6.drewN n7 = w7 at HB1 ⊢
 go_wp2_with fail
 refine (policy_Same.calls k AO cO l A c l true w7 (Kd.C_below (Kd.S_reads' HO.out).2.2 HB1.out) (Kd.S_reads' HO.out).2.1 (Kd.C_below HR.out (below_step HB.out HB1.out)) hc HF.out.pl).mono ?_
 rintro e w8 ⟨rfl, hb2⟩
 replace HB1 := Aside0.mk (below_step HB1.out hb2)
 clear hb2; go_wp2
 go_loopw [14] (fun v14 ws => ∃ i : Nat, i ≤ l.length ∧ v14 = .int .i64 i ∧ Aside0 (Below w1.heap.size w1 ws)) (fun v14 _ => l.length - (intOf v14).toNat)
 case atStart => exact ⟨0, Nat.zero_le _, rfl, HB1⟩
 case round =>
  obtain ⟨i, hi, rfl, HBR⟩ := hrel
  clear HB1; by_cases hlt : i < l.length; rotate_left
  ·
   obtain rfl : i = l.length := by omega
   have b0 : decide ((l.length : Int) < (l.length : Int)) = false := decide_eq_false (by omega)
   have b1 : decide (l.length < l.length) = false := decide_eq_false hlt
   go_wp2_with fail
   refine (belfryref11_Same.calls k AO A cO c l l true wr (Kd.C_below (Kd.S_reads' HO.out).2.2 HBR.out) (Kd.C_below HR.out (below_step HB.out HBR.out)) (Kd.S_reads' HO.out).2.1 hc HF.out.rl).mono ?_
   rintro e w9 ⟨rfl, ⟨n9, rfl⟩⟩
   have HB9 := Aside0.mk (below_step HB.out (pw_below_drewN HBR.out n9)); generalize wr.drewN n9 = w9 at HB9 ⊢
   go_wp2_with fail
   refine (known.calls kk w9 HK.out (env_below HE.out HB9.out)).mono ?_
   rintro e w10 ⟨rfl, hb10⟩
   replace HB9 := Aside0.mk (below_step HB9.out hb10)
   clear hb10; go_wp2; go_ret
   exact ⟨rfl, HB9.out⟩
  have b0 : decide ((i : Int) < (l.length : Int)) = true := decide_eq_true (by omega)
  have b1 : decide (i < l.length) = true := decide_eq_true hlt
  by_cases h100 : i < 100; rotate_left
  ·
   have b2 : decide ((i : Int) < 100) = false := decide_eq_false (by omega)
   have b3 : decide (i < 100) = false := decide_eq_false h100
   go_wp2_with fail
   refine (belfryref11_Same.calls k AO A cO c l l true wr (Kd.C_below (Kd.S_reads' HO.out).2.2 HBR.out) (Kd.C_below HR.out (below_step HB.out HBR.out)) (Kd.S_reads' HO.out).2.1 hc HF.out.rl).mono ?_
   rintro e w9 ⟨rfl, ⟨n9, rfl⟩⟩
   have HB9 := Aside0.mk (below_step HB.out (pw_below_drewN HBR.out n9)); generalize wr.drewN n9 = w9 at HB9 ⊢
   go_wp2_with fail
   refine (known.calls kk w9 HK.out (env_below HE.out HB9.out)).mono ?_
   rintro e w10 ⟨rfl, hb10⟩
   replace HB9 := Aside0.mk (below_step HB9.out hb10)
   clear hb10; go_wp2; go_ret
   exact ⟨rfl, HB9.out⟩
  have b2 : decide ((i : Int) < 100) = true := decide_eq_true (by omega)
  have b3 : decide (i < 100) = true := decide_eq_true h100
  have p0 : (0 : Int) ≤ (i : Int) := by omega
  have q0 : (i : Int) < (l.length : Int) := by omega
  obtain ⟨ad, A3, c3, A4, c4, e9, hx0, hx1, hx2, hx3, hx4, l3, g3, l4, g4⟩ := at_T46 (Kd.C_below HR.out HB.out) (i : Int) p0 q0
  obtain ⟨bd, B3, d3, B4, d4, e8, hy0, hy1, hy2, hy3, hy4, n3, k3, n4, k4⟩ := at_T46 (Kd.S_reads' HO.out).2.2 (i : Int) p0 q0
  cases e9; cases e8
  rw [Int.toNat_natCast] at hx0 hx1 hx2 hx3 hx4 hy0 hy1 hy2 hy3 hy4
  have hme := HF.out.right (rd_T46 l (i : Int)) (by rw [show rd_T46 l (i : Int) = l[i] by simp [rd_T46, List.getD, List.getElem?_eq_getElem hlt]]; exact List.getElem_mem hlt)
  generalize rd_T46 l (i : Int) = x at *
  obtain ⟨er, hright⟩ := hme
  have HRT := Aside0.mk hright; have HG3 := Aside0.mk g3; have HG4 := Aside0.mk g4; have HK3 := Aside0.mk k3; have HK4 := Aside0.mk k4; clear g3 g4 k3 k4 hright; replace p0 := eq_true p0; replace q0 := eq_true q0
  go_upto_region 9 with (fail)
  refine start_ (n := 11) (S := fun w' => Below w1.heap.size w1 w') (ds := []) (bA 11 0) (by kernel_rfl) rfl rfl (below_drew1 HBR.out) (fun hHeld => ?_)
  refine with_tabW belfrylaw11_PolicyWrites.tab9 belfrylaw11_PolicyWrites.bits9 (fun HT_ HW_ => ?_)
  generalize wr.drew = W0 at hHeld ⊢
  refine purA 0 (some 74) (bA 11 1) HT_ ?_
  refine purA 1 (some 75) (bA 11 3) HT_ ?_
  refine purA 2 (some 76) (bA 11 7) HT_ ?_
  refine purA 5 (some 79) (bA 11 39) HT_ ?_
  refine purA 6 (some 80) (bA 11 103) HT_ ?_
  refine purA 7 (some 81) (bA 11 231) HT_ ?_
  refine take_ (i := 3) (N := some 77) (v := ?_) (a' := ?_) (bA 11 239) rfl rfl (take_ofW HT_.out HW_.out (by kernel_rfl)) (fun _ _ _ h => h) (Or.inl ⟨by rfl, ?_⟩) hHeld ?_ ?_
  rotate_left
  ·
   rintro w' hw
   have z0 := (hw.cell (cell_place hy0).2).trans hy0; have z1 := (hw.cell (cell_place hy1).2).trans hy1; have z2 := (hw.cell (cell_place hy2).2).trans hy2; have z3 := (hw.cell (cell_place hy3).2).trans hy3; have z4 := (hw.cell (cell_place hy4).2).trans hy4; go_simp; with_reducible rfl
  rotate_left
  · simp only [Act.put, List.setIfInBounds_toArray, List.set_cons_zero, List.set_cons_succ, i64_w, i32_w]; rfl
  refine take_ (i := 8) (N := some 82) (v := ?_) (a' := ?_) (bA 11 495) rfl rfl (take_ofW HT_.out HW_.out (by kernel_rfl)) (fun _ _ _ h => h) (Or.inl ⟨by rfl, ?_⟩) hHeld ?_ ?_
  rotate_left
  ·
   rintro w' hw
   have z0 := (hw.cell (cell_place hx0).2).trans hx0; have z1 := (hw.cell (cell_place hx1).2).trans hx1; have z2 := (hw.cell (cell_place hx2).2).trans hx2; have z3 := (hw.cell (cell_place hx3).2).trans hx3; have z4 := (hw.cell (cell_place hx4).2).trans hx4; go_simp; with_reducible rfl
  rotate_left
  · simp only [Act.put, List.setIfInBounds_toArray, List.set_cons_zero, List.set_cons_succ, i64_w, i32_w]; rfl
  refine one_ (i := 4) (N := some 78) (bA 11 511) rfl rfl (one_of HT_.out (by kernel_rfl)) (by decide) (fun K hK => ?_)
  refine goes_ Tryz.func22 (by kernel_rfl) rfl #[.agg #[.bool x.f0, .int .i64 x.f1, .string x.f2, .slice B3 x.f3.length d3, .slice B4 x.f4.length d4]] (by rfl) rfl rfl (by (try simp only [List.map_toArray, List.map_cons, List.map_nil]); first | done | rfl) ?_
  refine (policy_Right.calls k x.f0 x.f1 x.f2 B3 d3 x.f3 B4 d4 x.f4 er _ (Kd.C_below HK3.out hHeld) n3 (Kd.C_below HK4.out hHeld) n4 HRT.out.1 (env_below HE.out (below_step HB.out hHeld))).mono ?_
  rintro e w2 ⟨rfl, hb2⟩
  refine ⟨_, rfl, ?_⟩
  refine hK.out _ _ (below_step hHeld hb2) (fun hHeld => ?_)
  clear hK K hb2
  refine norm_ (a' := ?_) ?_ ?_
  rotate_left
  ·
   show Act.put _ (some 78) _ = _
   simp only [Act.put, List.setIfInBounds_toArray, List.set_cons_zero, List.set_cons_succ, i64_w, i32_w]; rfl
  refine one_ (i := 9) (N := some 83) (bA 11 1023) rfl rfl (one_of HT_.out (by kernel_rfl)) (by decide) (fun K hK => ?_)
  refine goes_ Tryz.func23 (by kernel_rfl) rfl #[.agg #[.bool x.f0, .int .i64 x.f1, .string x.f2, .slice A3 x.f3.length c3, .slice A4 x.f4.length c4]] (by rfl) rfl rfl (by (try simp only [List.map_toArray, List.map_cons, List.map_nil]); first | done | rfl) ?_
  refine (belfryref11_Right.calls k x.f0 x.f1 x.f2 A3 c3 x.f3 A4 c4 x.f4 er _ (Kd.C_below HG3.out hHeld) l3 (Kd.C_below HG4.out hHeld) l4 HRT.out.2).mono ?_
  rintro e w2 ⟨rfl, hb2⟩
  refine ⟨_, rfl, ?_⟩
  refine hK.out _ _ (below_step hHeld hb2) (fun hHeld => ?_)
  clear hK K hb2
  refine norm_ (a' := ?_) ?_ ?_
  rotate_left
  ·
   show Act.put _ (some 83) _ = _
   simp only [Act.put, List.setIfInBounds_toArray, List.set_cons_zero, List.set_cons_succ, i64_w, i32_w]; rfl
  refine purA 10 (some 84) (bA 11 2047) HT_ ?_
  refine done_ (done_of HT_.out (by kernel_rfl)) ?_
  have HB2 := Aside0.mk hHeld; clear hHeld HBR; go_wp2
  go_roundw
  case rel => exact ⟨i + 1, hlt, by go_num, HB2⟩
  case measure => simp [intOf]; omega
end Go.Proofs.YtkedidjjhhjdbaaGreatDoor.Pr
end
section
set_option linter.unusedVariables false
set_option linter.unusedSimpArgs false
namespace Go.Proofs.YtkedidjjhhjdbaaGreatDoor.Pr
open Go.RowKit Go.Proofs.YtkedidjjhhjdbaaGreatDoorW.PrintWords Go.Proofs.YtkedidjjhhjdbaaGreatDoorW.PrintLast Go.Proofs.YtkedidjjhhjdbaaGreatDoorW.PrintMore
theorem Ev.allV {α β : Type} {f : α → Nat → Option β} {v : α → β} : ∀ l : List α, (∀ x ∈ l, Ev (f x) (v x)) → ∃ K, ∀ k, K ≤ k → ∀ x ∈ l, f x k = some (v x)
 | [], _ => ⟨0, fun _ _ x h => by cases h⟩
 | y :: l, h => by
  obtain ⟨K, hK⟩ := h y (List.mem_cons_self ..)
  obtain ⟨L, hL⟩ := Ev.allV l (fun x hx => h x (List.mem_cons_of_mem _ hx))
  refine ⟨K + L, fun k hk x hx => ?_⟩
  rcases List.mem_cons.1 hx with rfl | hx
  · exact hK k (by omega)
  exact hL k (by omega) x hx
theorem writes_facts (l m : List S46) (kd : Int) (hl : l.length < 1759218604441) (hs : ∀ x ∈ l, x.f3.length < 3518437208883 ∧ x.f4.length < 8796093022208) : ∃ K, WrF K l m kd := by
 have hm : ∀ x ∈ l, Small46 x := fun x hx => ⟨by have := hs x hx; omega, by have := hs x hx; omega⟩
 obtain ⟨K1, h1⟩ := lent_evG l hl hs
 obtain ⟨K2, h2⟩ := print_ev l
 obtain ⟨K3, h3⟩ := ref_print_ev l
 obtain ⟨K4, h4⟩ := same_ev l m (by omega) hm
 obtain ⟨K5, h5⟩ := ref_same_ev l m hm
 obtain ⟨K6, h6⟩ := same_ev l l (by omega) hm
 obtain ⟨K7, h7⟩ := ref_same_ev l l hm
 rw [sameR_refl] at h6 h7
 obtain ⟨K8, h8⟩ := Ev.allV (f := fun (x : S46) k => policy_Right.f k x.f0 x.f1 x.f2 x.f3 x.f4) (v := rightR) l (fun x _ => right_ev x.f0 x.f1 x.f2 x.f3 x.f4)
 obtain ⟨K9, h9⟩ := Ev.allV (f := fun (x : S46) k => belfryref11_Right.f k x.f0 x.f1 x.f2 x.f3 x.f4) (v := rightR) l (fun x _ => ref_right_ev x.f0 x.f1 x.f2 x.f3 x.f4)
 refine ⟨K1 + K2 + K3 + K4 + K5 + K6 + K7 + K8 + K9, ?_⟩
 exact { lent := h1 _ (by omega), pr := ⟨_, _, _, h2 _ (by omega), h3 _ (by omega)⟩, ps := ⟨_, h4 _ (by omega), h5 _ (by omega)⟩, pl := h6 _ (by omega), rl := h7 _ (by omega), kd := ⟨_, kind_eq kd, ref_kind_eq kd⟩, right := fun x hx => ⟨_, h8 _ (by omega) x hx, h9 _ (by omega) x hx⟩ }
end Go.Proofs.YtkedidjjhhjdbaaGreatDoor.Pr
end
