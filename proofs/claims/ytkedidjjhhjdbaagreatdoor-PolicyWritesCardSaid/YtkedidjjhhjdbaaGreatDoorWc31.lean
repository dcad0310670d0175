import Derived.Test.YtkedidjjhhjdbaaGreatDoorWc0
import Derived.Test.YtkedidjjhhjdbaaGreatDoorWc17
import Derived.Test.YtkedidjjhhjdbaaGreatDoorWc27
import Derived.Test.YtkedidjjhhjdbaaGreatDoorWc30
import Derived.Lib.LazyBuf
set_option linter.unusedVariables false
set_option linter.unusedSimpArgs false
namespace Go.Proofs.YtkedidjjhhjdbaaGreatDoor.Pr
open Go.RowKit Go.Proofs.YtkedidjjhhjdbaaGreatDoorW.PrintWords Go.Proofs.YtkedidjjhhjdbaaGreatDoorW.PrintLast Go.Proofs.YtkedidjjhhjdbaaGreatDoorW.PrintMore
theorem bytes_eq {a : ByteArray} {l : List UInt8} (h : a.data.toList = l) : a = ⟨l.toArray⟩ := by
 subst h; rfl
theorem data_app (a b : ByteArray) : (a ++ b).data.toList = a.data.toList ++ b.data.toList := by simp [ByteArray.data_append]
theorem data_mk (l : List UInt8) : (⟨l.toArray⟩ : ByteArray).data.toList = l := rfl
theorem size_mk (l : List UInt8) : (⟨l.toArray⟩ : ByteArray).size = l.length := by show l.toArray.size = l.length; exact List.size_toArray ..
theorem size_data (a : ByteArray) : a.size = a.data.toList.length := Array.length_toList.symm
theorem sign_op (c : Int) : attr_sign.f c = some (opB c) := by
 unfold attr_sign.f opB
 split
 · rfl
 split
 · rfl
 split
 · rfl
 split <;> rfl
def quoB (s : ByteArray) : ByteArray := (⟨#[34]⟩ : ByteArray) ++ (⟨(escL s.data.toList).toArray⟩ : ByteArray) ++ (⟨#[34]⟩ : ByteArray)
def quoL (s : ByteArray) : List UInt8 := 34 :: (escL s.data.toList ++ [34])
theorem quoB_data (s : ByteArray) : (quoB s).data.toList = quoL s := by
 unfold quoB quoL
 rw [data_app, data_app, data_mk]; rfl
theorem escL_le2 (l : List UInt8) : (escL l).length ≤ 2 * l.length := by
 rw [escL_len]
 have : specN l ≤ l.length := List.countP_le_length
 omega
theorem quoB_size (s : ByteArray) : (quoB s).size ≤ 2 * s.size + 2 := by
 rw [size_data, quoB_data, size_data s]
 unfold quoL
 have := escL_le2 s.data.toList
 simp only [List.length_cons, List.length_append, List.length_nil]; omega
structure MOk (m : S33) : Prop where
  o1 : 1 ≤ m.f0
  o4 : m.f0 ≤ 4
  ke : keyB m.f1 = true
  pl : plainB m.f2 = true
theorem MOk.ks {m : S33} (h : MOk m) : m.f1.size ≤ 64 := key_size h.ke
theorem MOk.vs {m : S33} (h : MOk m) : m.f2.size ≤ 256 := by
 have := h.pl
 unfold plainB at this
 simp only [Bool.and_eq_true, decide_eq_true_eq] at this
 exact this.1
theorem wrongL_ok : ∀ l : List S33, wrongL l = 0 → ∀ m ∈ l, MOk m
 | [], _, m, h => by cases h
 | x :: l, h, m, hm => by
  rw [wrongL] at h; by_cases h1 : x.f0 < 1 ∨ 4 < x.f0
  · rw [if_pos h1] at h; cases h
  rw [if_neg h1] at h
  cases hk : keyB x.f1 with
  | false => rw [hk] at h; simp at h
  | true =>
   cases hp : plainB x.f2 with
   | false => rw [hk, hp] at h; simp at h
   | true =>
    rw [hk, hp] at h
    rcases List.mem_cons.1 hm with rfl | hm
    · exact ⟨by omega, by omega, hk, hp⟩
    exact wrongL_ok l (by simpa using h) m hm
structure ROk (d : Bool) (kd : Int) (tn : ByteArray) (sc : List S33) (h : List ByteArray) : Prop where
  k0 : 0 ≤ kd
  k3 : kd ≤ 3
  tto : tn.toList = ([42] : List UInt8) ∨ nameB tn = true
  s8 : sc.length ≤ 8
  sm : ∀ m ∈ sc, MOk m
  dn : d = true → sc.length ≤ 1 ∧ h = []
  h16 : h.length ≤ 16
  hk : ∀ x ∈ h, keyB x = true
theorem right_ok {d : Bool} {kd : Int} {tn : ByteArray} {sc : List S33} {h : List ByteArray} (e : rightL d kd tn sc h = 0) : ROk d kd tn sc h := by
 unfold rightL at e
 by_cases h1 : kd < 0 ∨ 3 < kd
 · rw [if_pos h1] at e; cases e
 rw [if_neg h1] at e; by_cases h2 : tn.toList = ([42] : List UInt8) ∨ nameB tn = true; rotate_left
 · rw [if_neg h2] at e; cases e
 rw [if_pos h2] at e; by_cases h3 : rightM sc = 0; rotate_left
 · rw [if_neg h3] at e; exact absurd e h3
 rw [if_pos h3] at e
 have h8 : sc.length ≤ 8 ∧ wrongL sc = 0 := by
  unfold rightM at h3
  by_cases h8 : (sc.length : Int) > 8
  · rw [if_pos h8] at h3; cases h3
  rw [if_neg h8] at h3; exact ⟨by omega, h3⟩
 by_cases h4 : d = true ∧ ((sc.length : Int) > 1 ∨ (h.length : Int) > 0)
 · rw [if_pos h4] at e; cases e
 rw [if_neg h4] at e
 unfold hidL at e
 by_cases h5 : (h.length : Int) > 16
 · rw [if_pos h5] at e; cases e
 rw [if_neg h5] at e; by_cases h6 : h.all keyB = true; rotate_left
 · rw [if_neg h6] at e; cases e
 refine ⟨by omega, by omega, h2, h8.1, wrongL_ok sc h8.2, fun hd => ?_, by omega, fun x hx => List.all_eq_true.1 h6 x hx⟩
 have hn : ¬ ((sc.length : Int) > 1 ∨ (h.length : Int) > 0) := fun x => h4 ⟨hd, x⟩
 exact ⟨by omega, List.length_eq_zero_iff.1 (by omega)⟩
theorem ROk.ts {d : Bool} {kd : Int} {tn : ByteArray} {sc : List S33} {h : List ByteArray} (r : ROk d kd tn sc h) : tn.size ≤ 32 := by
 rcases r.tto with e | e
 ·
  rw [Lib.toList_data] at e
  rw [size_data, e]; decide
 unfold nameB at e
 simp only [Bool.and_eq_true, decide_eq_true_eq] at e
 exact e.1.1.2
def iesc (l : List UInt8) : List Int := (escL l).map fun b => (b.toNat : Int)
theorem iesc_cons (b : UInt8) (l : List UInt8) : iesc (b :: l) = (esc b).map (fun b => (b.toNat : Int)) ++ iesc l := by simp [iesc, escL]
theorem toNat_inj {a : UInt8} {n : Nat} (hn : n < 256) (h : (a.toNat : Int) = (n : Int)) : a = UInt8.ofNat n := by
 have : a.toNat = n := by omega
 rw [← this]; simp
theorem ref_quote_l0 (s : ByteArray) (hs : s.size ≤ 35184372088832) : ∀ (n i : Nat), i + n = s.size → ∀ x3 : List Int, x3.length ≤ 2 * i + 1 →
  Ev (fun k => belfryref04_Quote.l0 k s x3 (i : Int)) (strOfNums (x3 ++ (iesc (s.data.toList.drop i) ++ [34])))
 | 0, i, hin, x3, hx => by
  have hl : s.data.toList.length = s.size := Array.length_toList
  rw [List.drop_of_length_le (by omega)]
  exact Ev.succ (g := fun _ => some (strOfNums (x3 ++ [34]))) (Ev.const rfl) (fun k => by rw [belfryref04_Quote.l0, if_neg (by omega), if_pos (by omega)])
 | n + 1, i, hin, x3, hx => by
  have hl : s.data.toList.length = s.size := Array.length_toList
  have hi : i < s.data.toList.length := by omega
  rw [List.drop_eq_getElem_cons hi, iesc_cons, List.append_assoc, ← List.append_assoc]; have hb := bt_nat s i hi
  have hw : ∀ a : Int, a = (i : Int) + 1 → wrap64 a = ((i + 1 : Nat) : Int) := fun a ha => by subst ha; rw [wrap_small (n := (i : Int) + 1) (by omega) (by omega)]; omega
  generalize s.data.toList[i] = b at hb ⊢
  by_cases h34 : b = 34
  ·
   subst h34
   have hb' : bt s (i : Int) = 34 := hb
   refine Ev.succ (g := fun k => belfryref04_Quote.j1 k s x3 (i : Int) 34 true) ?_ (fun k => by rw [belfryref04_Quote.l0, if_pos (by omega), if_pos (by omega), hb', if_pos rfl]; rfl)
   have := ref_quote_l0 s hs n (i + 1) (by omega) (x3 ++ [92, 34]) (by simp; omega)
   exact Ev.succ this (fun k => by
    rw [belfryref04_Quote.j1, if_pos rfl, if_pos (by omega), if_pos (by omega), hb', Option.bind_some]
    rw [if_pos (by simp; omega), hw _ rfl])
  have hn34 : bt s (i : Int) ≠ 34 := fun e => h34 (toNat_inj (n := 34) (by omega) (hb.symm.trans e))
  by_cases h92 : b = 92
  ·
   subst h92
   have hb' : bt s (i : Int) = 92 := hb
   refine Ev.succ (g := fun k => belfryref04_Quote.j1 k s x3 (i : Int) 92 true) ?_ (fun k => by rw [belfryref04_Quote.l0, if_pos (by omega), if_pos (by omega), if_neg hn34, hb']; rfl)
   have := ref_quote_l0 s hs n (i + 1) (by omega) (x3 ++ [92, 92]) (by simp; omega)
   exact Ev.succ this (fun k => by
    rw [belfryref04_Quote.j1, if_pos rfl, if_pos (by omega), if_pos (by omega), hb', Option.bind_some]
    rw [if_pos (by simp; omega), hw _ rfl])
  have hn92 : bt s (i : Int) ≠ 92 := fun e => h92 (toNat_inj (n := 92) (by omega) (hb.symm.trans e))
  have hf : (bt s (i : Int) == 92) = false := beq_eq_false_iff_ne.2 hn92
  refine Ev.succ (g := fun k => belfryref04_Quote.j1 k s x3 (i : Int) (bt s (i : Int)) false) ?_ (fun k => by rw [belfryref04_Quote.l0, if_pos (by omega), if_pos (by omega), if_neg hn34, hf])
  by_cases h10 : b = 10
  ·
   subst h10
   have hb' : bt s (i : Int) = 10 := hb
   have := ref_quote_l0 s hs n (i + 1) (by omega) (x3 ++ [92, 110]) (by simp; omega)
   exact Ev.succ this (fun k => by
    rw [belfryref04_Quote.j1, if_neg (by simp), if_pos hb', Option.bind_some]
    rw [if_pos (by simp; omega), hw _ rfl])
  have hn10 : bt s (i : Int) ≠ 10 := fun e => h10 (toNat_inj (n := 10) (by omega) (hb.symm.trans e))
  have he : esc b = [b] := by unfold esc; rw [if_neg h10, if_neg h92, if_neg h34]
  rw [he]
  have := ref_quote_l0 s hs n (i + 1) (by omega) (x3 ++ [(b.toNat : Int)]) (by simp; omega)
  exact Ev.succ this (fun k => by
   rw [belfryref04_Quote.j1, if_neg (by simp), if_neg hn10, if_pos (by omega), if_pos (by omega), if_pos (by omega), hw _ rfl, hb])
theorem quo_nums (s : ByteArray) : strOfNums ([34] ++ (iesc s.data.toList ++ [34])) = quoB s := by
 refine (bytes_eq ?_).trans (bytes_eq (quoB_data s)).symm
 rw [strOfNums_data]
 unfold quoL iesc
 simp [Function.comp_def]
theorem ref_quote_ev (s : ByteArray) (hs : s.size ≤ 35184372088832) : Ev (fun k => belfryref04_Quote.f k s) (quoB s) := by
 rw [← quo_nums]
 exact ref_quote_l0 s hs s.size 0 (by omega) [34] (by simp)
theorem attr_quote (s : ByteArray) (hs : s.size < 4294967281) : attr_Quote.f s = some (quoB s) := by
 unfold attr_Quote.f quoB
 rw [if_pos hs]
def matB (m : S33) : ByteArray := (m.f1 ++ opB m.f0) ++ quoB m.f2
def matL (m : S33) : List UInt8 := m.f1.data.toList ++ (opB m.f0).data.toList ++ quoL m.f2
theorem matB_data (m : S33) : (matB m).data.toList = matL m := by unfold matB matL; rw [data_app, data_app, quoB_data]
theorem MOk.ms {m : S33} (h : MOk m) : (matB m).size ≤ 580 := by
 have h1 := h.ks; have h2 := h.vs; have h3 := opB_size m.f0; have h4 := quoB_size m.f2
 unfold matB
 rw [ByteArray.size_append, ByteArray.size_append]; omega
def comL : List (List UInt8) → List UInt8
  | [] => []
  | [x] => x
  | x :: y :: r => x ++ ([44, 32] ++ comL (y :: r))
theorem join_com : ∀ l : List (List UInt8), Lib.join l [44, 32] = comL l
 | [] => rfl
 | [x] => by rw [Lib.join_one]; rfl
 | x :: y :: r => by
  rw [comL, ← join_com (y :: r)]
  simp [Lib.join, List.intercalate, List.intersperse]
theorem comL_len (B : Nat) : ∀ l : List (List UInt8), (∀ x ∈ l, x.length ≤ B) → (comL l).length ≤ l.length * (B + 2)
 | [], _ => by simp [comL]
 | [x], h => by
  have := h x (List.mem_cons_self ..)
  rw [comL, List.length_singleton]; omega
 | x :: y :: r, h => by
  have h1 := h x (List.mem_cons_self ..)
  have h2 := comL_len B (y :: r) (fun z hz => h z (List.mem_cons_of_mem _ hz))
  rw [comL, List.length_append, List.length_append, List.length_cons (a := x), Nat.succ_mul]
  have : ([44, 32] : List UInt8).length = 2 := rfl
  omega
def matchL (l : List S33) : List UInt8 := 123 :: (comL (l.map matL) ++ [125])
theorem join_mat (l : List S33) : ((l.map matB).map (·.data.toList)) = l.map matL := by
 rw [List.map_map]
 exact List.map_congr_left (fun m _ => matB_data m)
theorem mat_len {m : S33} (h : MOk m) : (matL m).length ≤ 580 := by rw [← matB_data, ← size_data]; exact h.ms
theorem com_mat (l : List S33) (h8 : l.length ≤ 8) (h : ∀ m ∈ l, MOk m) : (comL (l.map matL)).length ≤ 4656 := by
 have := comL_len 580 (l.map matL) (fun x hx => by obtain ⟨m, hm, rfl⟩ := List.mem_map.1 hx; exact mat_len (h m hm))
 rw [List.length_map] at this
 have h2 : l.length * (580 + 2) ≤ 8 * (580 + 2) := Nat.mul_le_mul_right _ h8
 omega
theorem join_str (l : List ByteArray) (B : Nat) (hl : l.length ≤ 1000000) (h : ∀ x ∈ l, x.size ≤ 1000) : strings_Join.f l (⟨#[44, 32]⟩ : ByteArray) = some ⟨(comL (l.map (·.data.toList))).toArray⟩ := by
 unfold strings_Join.f
 have e : (⟨#[44, 32]⟩ : ByteArray).data.toList = [44, 32] := rfl
 rw [e, join_com]
 have := comL_len 1000 (l.map (·.data.toList)) (fun x hx => by obtain ⟨m, hm, rfl⟩ := List.mem_map.1 hx; rw [← size_data]; exact h m hm)
 rw [List.length_map] at this
 have h2 : l.length * (1000 + 2) ≤ 1000000 * (1000 + 2) := Nat.mul_le_mul_right _ hl
 rw [if_pos ⟨by omega, by omega⟩]
theorem match_l0 (l : List S33) (h8 : l.length ≤ 8) (h : ∀ m ∈ l, MOk m) : ∀ (n i : Nat), i + n = l.length →
  Ev (fun k => attr_MatchText.l0 k ((l.take i).map matB) l (l.length : Int) (i : Int)) ⟨(matchL l).toArray⟩
 | 0, i, hin => by
  rw [List.take_of_length_le (show l.length ≤ i by omega)]
  have hj := join_str (l.map matB) 0 (by rw [List.length_map]; omega) (fun x hx => by obtain ⟨m, hm, rfl⟩ := List.mem_map.1 hx; have := (h m hm).ms; omega)
  rw [join_mat] at hj; have hc := com_mat l h8 h
  refine Ev.succ (g := fun _ => some ⟨(matchL l).toArray⟩) (Ev.const rfl) (fun k => ?_)
  rw [attr_MatchText.l0, if_neg (by omega), hj, Option.bind_some, if_pos (by rw [size_mk]; omega), if_pos (by rw [ByteArray.size_append]; have h1 : (⟨#[123]⟩ : ByteArray).size = 1 := rfl; have h2 := size_mk (comL (l.map matL)); omega)]
  exact congrArg some (bytes_eq (by rw [data_app, data_app, data_mk]; rfl))
 | n + 1, i, hin => by
  have hi : i < l.length := by omega
  have hx := h l[i] (List.getElem_mem hi); have h1 := hx.ks; have h2 := hx.vs; have h3 := opB_size l[i].f0; have h4 := quoB_size l[i].f2
  refine Ev.succ (match_l0 l h8 h n (i + 1) (by omega)) (fun k => ?_)
  rw [attr_MatchText.l0, if_pos (by omega), if_pos (by omega), if_pos (by omega), rd_at33 l i hi, sign_op, Option.bind_some, if_pos (by omega), attr_quote _ (by omega), Option.bind_some, if_pos (by rw [ByteArray.size_append]; omega), if_pos (by simp; omega), wrap_small (n := (i : Int) + 1) (by omega) (by omega), show (i : Int) + 1 = ((i + 1 : Nat) : Int) by omega, List.take_succ_eq_append_getElem hi, List.map_append]
  rfl
theorem match_ev (l : List S33) (h8 : l.length ≤ 8) (h : ∀ m ∈ l, MOk m) : Ev (fun k => attr_MatchText.f k l) ⟨(matchL l).toArray⟩ := match_l0 l h8 h l.length 0 (by omega)
def restM : Nat → List S33 → List UInt8
  | _, [] => []
  | 0, m :: r => matL m ++ restM 1 r
  | i + 1, m :: r => [44, 32] ++ (matL m ++ restM (i + 2) r)
theorem restM_com : ∀ (l : List S33) (m : S33) (i : Nat), matL m ++ restM (i + 1) l = comL ((m :: l).map matL)
 | [], m, i => by simp [restM, comL]
 | x :: l, m, i => by
  rw [restM, restM_com l x (i + 1)]; rfl
theorem restM_zero (l : List S33) : restM 0 l = comL (l.map matL) := by
 cases l with
 | nil => rfl
 | cons m l => rw [restM, restM_com]
theorem ref_match_go : ∀ (l : List S33), (∀ m ∈ l, MOk m) → ∀ (i : Nat) (b : Bool) (x3 v : ByteArray), i + l.length ≤ 8 → b = decide (i = 0) → x3.size ≤ 1 + i * 600 →
  v.data.toList = x3.data.toList ++ (restM i l ++ [125]) → Ev (fun k => belfryref04_MatchText.go k l b x3) v
 | [], h, i, b, x3, v, hl, hb, hs, hv => by
  have e : v = x3 ++ (⟨#[125]⟩ : ByteArray) := by
   rw [bytes_eq hv, bytes_eq (data_app x3 ⟨#[125]⟩)]
   cases i <;> rfl
  subst e
  exact Ev.of_eq (g := fun _ => some (x3 ++ (⟨#[125]⟩ : ByteArray))) (Ev.const rfl) (fun k => by rw [belfryref04_MatchText.go, if_pos (by omega)])
 | m :: r, h, i, b, x3, v, hl, hb, hs, hv => by
  have hx := h m (List.mem_cons_self ..); rw [List.length_cons] at hl; have h1 := hx.ks; have h2 := hx.vs; have h3 := opB_size m.f0; have h4 := quoB_size m.f2
  have c2 : (⟨#[44, 32]⟩ : ByteArray).size = 2 := rfl
  have ih := ref_match_go r (fun z hz => h z (List.mem_cons_of_mem _ hz)) (i + 1) false
  unfold belfryref04_MatchText.go
  simp only [if_pos (show 1 ≤ m.f0 ∧ m.f0 ≤ 4 ∧ x3.size < 100000000 ∧ m.f1.size < 100000000 from ⟨hx.o1, hx.o4, by omega, by omega⟩)]
  refine Ev.bind (ref_quote_ev m.f2 (by omega)) ?_
  simp only [if_pos (show (quoB m.f2).size < 100000000 by omega)]
  cases i with
  | zero =>
   subst hb; simp only [decide_true, if_true]
   refine ih _ v (by omega) (by rfl) (by simp only [ByteArray.size_append]; omega) ?_
   rw [hv, data_app, data_app, data_app, quoB_data, restM]
   unfold matL
   simp only [List.append_assoc]
  | succ i =>
   subst hb
   simp only [show ¬ (i + 1 = 0) by omega, decide_false, Bool.false_eq_true, if_false]
   refine ih _ v (by omega) (by simp) (by simp only [ByteArray.size_append]; omega) ?_
   rw [hv, data_app, data_app, data_app, data_app, quoB_data, restM]
   unfold matL
   simp only [List.append_assoc]
theorem ref_match_ev (l : List S33) (h8 : l.length ≤ 8) (h : ∀ m ∈ l, MOk m) : Ev (fun k => belfryref04_MatchText.f k l) ⟨(matchL l).toArray⟩ := by
 unfold belfryref04_MatchText.f
 refine ref_match_go l h 0 true _ _ (by omega) (by rfl) (by decide) ?_
 rw [data_mk, restM_zero]; rfl
def kindB (c : Int) : ByteArray := if c = 0 then (⟨#[97, 110, 121]⟩ : ByteArray) else if c = 1 then (⟨#[109, 101, 116, 114, 105, 99, 115]⟩ : ByteArray) else if c = 2 then (⟨#[108, 111, 103, 115]⟩ : ByteArray) else if c = 3 then (⟨#[116, 114, 97, 99, 101, 115]⟩ : ByteArray) else (⟨#[]⟩ : ByteArray)
theorem kind_eq (c : Int) : policy_Kind.f c = some (kindB c) := by
 unfold policy_Kind.f kindB
 split
 · rfl
 split
 · rfl
 split
 · rfl
 split <;> rfl
theorem kindB_size (c : Int) : (kindB c).size ≤ 7 := by
 unfold kindB
 split
 · decide
 split
 · decide
 split
 · decide
 split <;> decide
theorem ref_kind_eq (c : Int) : belfryref11_Kind.f c = some (kindB c) := by
 unfold belfryref11_Kind.f kindB
 rw [Option.bind_some]
 have h4 : ([(⟨#[97, 110, 121]⟩ : ByteArray), (⟨#[109, 101, 116, 114, 105, 99, 115]⟩ : ByteArray), (⟨#[108, 111, 103, 115]⟩ : ByteArray), (⟨#[116, 114, 97, 99, 101, 115]⟩ : ByteArray)] : List ByteArray).length = 4 := rfl
 by_cases h0 : c < 0
 · rw [if_pos h0, if_neg (by omega), if_neg (by omega), if_neg (by omega), if_neg (by omega)]
 rw [if_neg h0, h4]; by_cases h5 : c ≥ 4
 · rw [if_pos (by omega), if_neg (by omega), if_neg (by omega), if_neg (by omega), if_neg (by omega)]
 rw [if_neg (by omega), if_pos (by omega), if_pos (by omega)]
 have : c = 0 ∨ c = 1 ∨ c = 2 ∨ c = 3 := by omega
 rcases this with rfl | rfl | rfl | rfl <;> rfl
def headL (d : Bool) : List UInt8 := if d = true then [100, 101, 110, 121, 32] else [97, 108, 108, 111, 119, 32]
def whereL (sc : List S33) : List UInt8 := if sc = [] then [] else [32, 119, 104, 101, 114, 101, 32] ++ matchL sc
def hideL (h : List ByteArray) : List UInt8 := if h = [] then [] else [32, 104, 105, 100, 101, 32] ++ comL (h.map (·.data.toList))
def lineL (d : Bool) (kd : Int) (tn : ByteArray) (sc : List S33) (h : List ByteArray) : List UInt8 :=
  headL d ++ ((kindB kd).data.toList ++ ([32, 116, 111, 32] ++ (tn.data.toList ++ (whereL sc ++ hideL h))))
section
variable {d : Bool} {kd : Int} {tn : ByteArray} {sc : List S33} {h : List ByteArray}
theorem com_hide (r : ROk d kd tn sc h) : (comL (h.map (·.data.toList))).length ≤ 1056 := by
 have := comL_len 64 (h.map (·.data.toList)) (fun x hx => by obtain ⟨m, hm, rfl⟩ := List.mem_map.1 hx; rw [← size_data]; exact key_size (r.hk m hm))
 rw [List.length_map] at this
 have h2 : h.length * (64 + 2) ≤ 16 * (64 + 2) := Nat.mul_le_mul_right _ r.h16
 omega
theorem line_j0 (r : ROk d kd tn sc h) (x3 v : ByteArray) (hx : x3.size ≤ 5) (hv : v.data.toList = x3.data.toList ++ ([32] ++ ((kindB kd).data.toList ++ ([32, 116, 111, 32] ++ (tn.data.toList ++ (whereL sc ++ hideL h)))))) : Ev (fun k => policy_line.j0 k x3 d kd tn sc h) v := by
 have h1 := kindB_size kd; have h2 := r.ts; have hm := com_mat sc r.s8 r.sm; have hh := com_hide r
 have hj := join_str h 0 (by have := r.h16; omega) (fun x hx => by have := key_size (r.hk x hx); omega)
 have c1 : (⟨#[32]⟩ : ByteArray).size = 1 := rfl
 have c4 : (⟨#[32, 116, 111, 32]⟩ : ByteArray).size = 4 := rfl
 have c7 : (⟨#[32, 119, 104, 101, 114, 101, 32]⟩ : ByteArray).size = 7 := rfl
 have c6 : (⟨#[32, 104, 105, 100, 101, 32]⟩ : ByteArray).size = 6 := rfl
 have em : (⟨(matchL sc).toArray⟩ : ByteArray).size ≤ 4658 := by rw [size_mk]; unfold matchL; simp only [List.length_cons, List.length_append, List.length_nil]; omega
 have eh : (⟨(comL (h.map (·.data.toList))).toArray⟩ : ByteArray).size ≤ 1056 := by rw [size_mk]; exact hh
 have hS : sc.length > 0 → sc ≠ [] := fun h e => by rw [e] at h; cases h
 have hH : h.length > 0 → h ≠ [] := fun h e => by rw [e] at h; cases h
 by_cases s0 : (sc.length : Int) > 0; rotate_left
 ·
  by_cases h0 : (h.length : Int) > 0; rotate_left
  ·
   refine Ev.succ (g := fun _ => some v) (Ev.const rfl) (fun k => ?_)
   rw [policy_line.j0, kind_eq, Option.bind_some, if_pos (by omega), if_pos (by simp only [ByteArray.size_append]; omega), if_pos (by simp only [ByteArray.size_append]; omega), if_pos (by simp only [ByteArray.size_append]; omega), if_neg s0, if_neg h0]
   congr 1
   refine (bytes_eq ?_).trans (bytes_eq hv).symm
   simp only [data_app, whereL, hideL, if_pos (List.length_eq_zero_iff.1 (show sc.length = 0 by omega)), if_pos (List.length_eq_zero_iff.1 (show h.length = 0 by omega)), List.append_assoc, List.append_nil]
  refine Ev.succ (g := fun _ => some v) (Ev.const rfl) (fun k => ?_)
  rw [policy_line.j0, kind_eq, Option.bind_some, if_pos (by omega), if_pos (by simp only [ByteArray.size_append]; omega), if_pos (by simp only [ByteArray.size_append]; omega), if_pos (by simp only [ByteArray.size_append]; omega), if_neg s0, if_pos h0, hj, Option.bind_some, if_pos (by omega), if_pos (by simp only [ByteArray.size_append]; omega)]
  congr 1
  refine (bytes_eq ?_).trans (bytes_eq hv).symm
  simp only [data_app, whereL, hideL, if_pos (List.length_eq_zero_iff.1 (show sc.length = 0 by omega)), if_neg (hH (by omega)), List.append_assoc, List.nil_append]
 by_cases h0 : (h.length : Int) > 0; rotate_left
 ·
  refine Ev.succ (g := fun k => (attr_MatchText.f k sc).bind fun t149 => (if 7 + t149.size ≤ 9223372036854775807 then (if (x3 ++ ((((⟨#[32]⟩ : ByteArray) ++ kindB kd) ++ (⟨#[32, 116, 111, 32]⟩ : ByteArray)) ++ tn)).size + ((⟨#[32, 119, 104, 101, 114, 101, 32]⟩ : ByteArray) ++ t149).size ≤ 9223372036854775807 then (some ((x3 ++ ((((⟨#[32]⟩ : ByteArray) ++ kindB kd) ++ (⟨#[32, 116, 111, 32]⟩ : ByteArray)) ++ tn)) ++ ((⟨#[32, 119, 104, 101, 114, 101, 32]⟩ : ByteArray) ++ t149))) else (none)) else (none))) ?_ (fun k => by
   rw [policy_line.j0, kind_eq, Option.bind_some, if_pos (by omega), if_pos (by simp only [ByteArray.size_append]; omega), if_pos (by simp only [ByteArray.size_append]; omega), if_pos (by simp only [ByteArray.size_append]; omega), if_pos s0]
   simp only [if_neg h0])
  refine Ev.bind (match_ev sc r.s8 r.sm) ?_
  refine Ev.const ?_
  rw [if_pos (by omega), if_pos (by simp only [ByteArray.size_append]; omega)]
  congr 1
  refine (bytes_eq ?_).trans (bytes_eq hv).symm
  simp only [data_app, whereL, hideL, if_neg (hS (by omega)), if_pos (List.length_eq_zero_iff.1 (show h.length = 0 by omega)), List.append_assoc, List.append_nil]
 refine Ev.succ (g := fun k => (attr_MatchText.f k sc).bind fun t149 => (if 7 + t149.size ≤ 9223372036854775807 then (if (x3 ++ ((((⟨#[32]⟩ : ByteArray) ++ kindB kd) ++ (⟨#[32, 116, 111, 32]⟩ : ByteArray)) ++ tn)).size + ((⟨#[32, 119, 104, 101, 114, 101, 32]⟩ : ByteArray) ++ t149).size ≤ 9223372036854775807 then (if 6 + (⟨(comL (h.map (·.data.toList))).toArray⟩ : ByteArray).size ≤ 9223372036854775807 then (if ((x3 ++ ((((⟨#[32]⟩ : ByteArray) ++ kindB kd) ++ (⟨#[32, 116, 111, 32]⟩ : ByteArray)) ++ tn)) ++ ((⟨#[32, 119, 104, 101, 114, 101, 32]⟩ : ByteArray) ++ t149)).size + ((⟨#[32, 104, 105, 100, 101, 32]⟩ : ByteArray) ++ (⟨(comL (h.map (·.data.toList))).toArray⟩ : ByteArray)).size ≤ 9223372036854775807 then (some (((x3 ++ ((((⟨#[32]⟩ : ByteArray) ++ kindB kd) ++ (⟨#[32, 116, 111, 32]⟩ : ByteArray)) ++ tn)) ++ ((⟨#[32, 119, 104, 101, 114, 101, 32]⟩ : ByteArray) ++ t149)) ++ ((⟨#[32, 104, 105, 100, 101, 32]⟩ : ByteArray) ++ (⟨(comL (h.map (·.data.toList))).toArray⟩ : ByteArray)))) else (none)) else (none)) else (none)) else (none))) ?_ (fun k => by
  rw [policy_line.j0, kind_eq, Option.bind_some, if_pos (by omega), if_pos (by simp only [ByteArray.size_append]; omega), if_pos (by simp only [ByteArray.size_append]; omega), if_pos (by simp only [ByteArray.size_append]; omega), if_pos s0]
  simp only [if_pos h0, hj, Option.bind_some])
 refine Ev.bind (match_ev sc r.s8 r.sm) ?_
 refine Ev.const ?_
 rw [if_pos (by omega), if_pos (by simp only [ByteArray.size_append]; omega), if_pos (by omega), if_pos (by simp only [ByteArray.size_append]; omega)]
 congr 1
 refine (bytes_eq ?_).trans (bytes_eq hv).symm
 simp only [data_app, whereL, hideL, if_neg (hS (by omega)), if_neg (hH (by omega)), List.append_assoc]
theorem line_ev (r : ROk d kd tn sc h) : Ev (fun k => policy_line.f k d kd tn sc h) ⟨(lineL d kd tn sc h).toArray⟩ := by
 unfold policy_line.f
 by_cases hd : d = true
 ·
  simp only [if_pos hd]
  refine line_j0 r _ _ (by decide) ?_
  rw [data_mk, lineL, headL, if_pos hd]
  simp
 simp only [if_neg hd]
 refine line_j0 r _ _ (by decide) ?_
 rw [data_mk, lineL, headL, if_neg hd]
 simp
def hidR : Nat → List ByteArray → List UInt8
  | _, [] => []
  | 0, m :: r => [32, 104, 105, 100, 101, 32] ++ (m.data.toList ++ hidR 1 r)
  | i + 1, m :: r => [44, 32] ++ (m.data.toList ++ hidR (i + 2) r)
theorem hidR_com : ∀ (l : List ByteArray) (m : ByteArray) (i : Nat), m.data.toList ++ hidR (i + 1) l = comL ((m :: l).map (·.data.toList))
 | [], m, i => by simp [hidR, comL]
 | x :: l, m, i => by
  rw [hidR, hidR_com l x (i + 1)]; rfl
theorem hidR_zero (l : List ByteArray) : hidR 0 l = hideL l := by
 cases l with
 | nil => rfl
 | cons m l => rw [hidR, hidR_com, hideL, if_neg (by simp)]
theorem ref_text_l0 (r : ROk d kd tn sc h) : ∀ (n i : Nat), i + n = h.length → ∀ (x3 v : ByteArray), x3.size ≤ 100000 + i * 100 →
  v.data.toList = x3.data.toList ++ hidR i (h.drop i) → Ev (fun k => belfryref11_text.l0 k x3 (i : Int) d kd tn sc h) v
 | 0, i, hin, x3, v, hs, hv => by
  rw [List.drop_of_length_le (show h.length ≤ i by omega)] at hv
  have e : v = x3 := by
   rw [bytes_eq hv]
   cases i <;> simp [hidR]
  subst e
  exact Ev.succ (g := fun _ => some v) (Ev.const rfl) (fun k => by rw [belfryref11_text.l0, if_neg (by omega)])
 | n + 1, i, hin, x3, v, hs, hv => by
  have hi : i < h.length := by omega
  have h1 := key_size (r.hk h[i] (List.getElem_mem hi))
  have c2 : (⟨#[44, 32]⟩ : ByteArray).size = 2 := rfl
  have c6 : (⟨#[32, 104, 105, 100, 101, 32]⟩ : ByteArray).size = 6 := rfl
  have h16 := r.h16; have ih := ref_text_l0 r n (i + 1) (by omega); rw [drop_cons33 h i hi] at hv; have hd := rdOf_at h i hi
  have hw : wrap64 ((i : Int) + 1) = ((i + 1 : Nat) : Int) := by rw [wrap_small (n := (i : Int) + 1) (by omega) (by omega)]; omega
  cases i with
  | zero =>
   refine Ev.succ (ih ((x3 ++ (⟨#[32, 104, 105, 100, 101, 32]⟩ : ByteArray)) ++ h[0]) v (by simp only [ByteArray.size_append]; omega) ?_) (fun k => by
    rw [belfryref11_text.l0, if_pos (by omega), if_pos (by omega), if_pos (by omega), if_pos (by omega), hd, if_pos (by simp only [ByteArray.size_append]; omega), hw])
   rw [hv, data_app, data_app, hidR]; simp only [List.append_assoc]
  | succ i =>
   refine Ev.succ (ih ((x3 ++ (⟨#[44, 32]⟩ : ByteArray)) ++ h[i + 1]) v (by simp only [ByteArray.size_append]; omega) ?_) (fun k => by
    rw [belfryref11_text.l0, if_pos (by omega), if_neg (by omega), if_pos (by omega), if_pos (by omega), hd, if_pos (by simp only [ByteArray.size_append]; omega), hw])
   rw [hv, data_app, data_app, hidR]; simp only [List.append_assoc]
theorem ref_text_j0 (r : ROk d kd tn sc h) (x3 v : ByteArray) (hx : x3.size ≤ 6) (hv : v.data.toList = x3.data.toList ++ ((kindB kd).data.toList ++ ([32, 116, 111, 32] ++ (tn.data.toList ++ (whereL sc ++ hideL h))))) : Ev (fun k => belfryref11_text.j0 k x3 d kd tn sc h) v := by
 have h1 := kindB_size kd; have h2 := r.ts; have hm := com_mat sc r.s8 r.sm
 have c4 : (⟨#[32, 116, 111, 32]⟩ : ByteArray).size = 4 := rfl
 have c7 : (⟨#[32, 119, 104, 101, 114, 101, 32]⟩ : ByteArray).size = 7 := rfl
 have em : (⟨(matchL sc).toArray⟩ : ByteArray).size ≤ 4658 := by rw [size_mk]; unfold matchL; simp only [List.length_cons, List.length_append, List.length_nil]; omega
 have hS : sc.length > 0 → sc ≠ [] := fun h e => by rw [e] at h; cases h
 by_cases s0 : (sc.length : Int) > 0; rotate_left
 ·
  refine Ev.succ (g := fun k => belfryref11_text.j1 k (((x3 ++ kindB kd) ++ (⟨#[32, 116, 111, 32]⟩ : ByteArray)) ++ tn) d kd tn sc h) ?_ (fun k => by
   rw [belfryref11_text.j0, ref_kind_eq, Option.bind_some, if_pos (by omega), if_pos (by simp only [ByteArray.size_append]; omega), if_pos (by simp only [ByteArray.size_append]; omega), if_neg s0])
  refine Ev.succ (ref_text_l0 r h.length 0 (by omega) (((x3 ++ kindB kd) ++ (⟨#[32, 116, 111, 32]⟩ : ByteArray)) ++ tn) v (by simp only [ByteArray.size_append]; omega) ?_) (fun k => by rw [belfryref11_text.j1]; rfl)
  rw [hv, List.drop_zero, hidR_zero]
  simp only [data_app, whereL, if_pos (List.length_eq_zero_iff.1 (show sc.length = 0 by omega)), List.append_assoc, List.nil_append]
 refine Ev.succ (g := fun k => (belfryref04_MatchText.f k sc).bind fun t448 => (if ((((x3 ++ kindB kd) ++ (⟨#[32, 116, 111, 32]⟩ : ByteArray)) ++ tn) ++ (⟨#[32, 119, 104, 101, 114, 101, 32]⟩ : ByteArray)).size + t448.size ≤ 9223372036854775807 then (belfryref11_text.j1 k (((((x3 ++ kindB kd) ++ (⟨#[32, 116, 111, 32]⟩ : ByteArray)) ++ tn) ++ (⟨#[32, 119, 104, 101, 114, 101, 32]⟩ : ByteArray)) ++ t448) d kd tn sc h) else (none))) ?_ (fun k => by
  rw [belfryref11_text.j0, ref_kind_eq, Option.bind_some, if_pos (by omega), if_pos (by simp only [ByteArray.size_append]; omega), if_pos (by simp only [ByteArray.size_append]; omega), if_pos s0, if_pos (by simp only [ByteArray.size_append]; omega)])
 refine Ev.bind (ref_match_ev sc r.s8 r.sm) ?_
 simp only [if_pos (show ((((x3 ++ kindB kd) ++ (⟨#[32, 116, 111, 32]⟩ : ByteArray)) ++ tn) ++ (⟨#[32, 119, 104, 101, 114, 101, 32]⟩ : ByteArray)).size + (⟨(matchL sc).toArray⟩ : ByteArray).size ≤ 9223372036854775807 by simp only [ByteArray.size_append]; omega)]
 refine Ev.succ (ref_text_l0 r h.length 0 (by omega) (((((x3 ++ kindB kd) ++ (⟨#[32, 116, 111, 32]⟩ : ByteArray)) ++ tn) ++ (⟨#[32, 119, 104, 101, 114, 101, 32]⟩ : ByteArray)) ++ (⟨(matchL sc).toArray⟩ : ByteArray)) v (by simp only [ByteArray.size_append]; omega) ?_) (fun k => by rw [belfryref11_text.j1]; rfl)
 rw [hv, List.drop_zero, hidR_zero]; simp only [data_app, whereL, if_neg (hS (by omega)), List.append_assoc]
theorem ref_text_ev (r : ROk d kd tn sc h) : Ev (fun k => belfryref11_text.f k d kd tn sc h) ⟨(lineL d kd tn sc h).toArray⟩ := by
 unfold belfryref11_text.f
 by_cases hd : d = true
 ·
  simp only [if_pos hd]
  refine ref_text_j0 r _ _ (by decide) ?_
  rw [data_mk, lineL, headL, if_pos hd]
 simp only [if_neg hd]
 refine ref_text_j0 r _ _ (by decide) ?_
 rw [data_mk, lineL, headL, if_neg hd]
theorem line_len (r : ROk d kd tn sc h) : (lineL d kd tn sc h).length ≤ 6000 := by
 have h1 := kindB_size kd; have h2 := r.ts; have hm := com_mat sc r.s8 r.sm; have hh := com_hide r
 have e1 : (headL d).length ≤ 6 := by unfold headL; split <;> decide
 have e2 : (whereL sc).length ≤ 4665 := by
  unfold whereL
  split
  · decide
  unfold matchL; simp only [List.length_cons, List.length_append, List.length_nil]; omega
 have e3 : (hideL h).length ≤ 1062 := by
  unfold hideL
  split
  · decide
  simp only [List.length_cons, List.length_append, List.length_nil]; omega
 rw [size_data] at h1 h2
 unfold lineL
 simp only [List.length_append, List.length_cons, List.length_nil]; omega
end
def rightR (x : S46) : Int := rightL x.f0 x.f1 x.f2 x.f3 x.f4
def lineR (x : S46) : List UInt8 := lineL x.f0 x.f1 x.f2 x.f3 x.f4
def prR : List S46 → Int → List UInt8 → ByteArray × Int × Int
  | [], _, acc => (⟨acc.toArray⟩, 0, 0)
  | x :: l, i, acc => if rightR x = 0 then prR l (i + 1) (acc ++ lineR x ++ [10]) else (⟨#[]⟩, rightR x, i)
theorem print_go : ∀ (l : List S46) (i : Int) (acc : List UInt8), l.length ≤ 32 → acc.length + l.length * 7000 ≤ 1000000 → Ev (fun k => policy_Print.go k l i acc) (prR l i acc)
 | [], i, acc, _, _ => Ev.const rfl
 | x :: l, i, acc, hl, ha => by
  rw [List.length_cons] at hl ha
  unfold policy_Print.go
  refine Ev.bind (right_ev x.f0 x.f1 x.f2 x.f3 x.f4) ?_
  rw [prR]
  show Ev _ (if rightL x.f0 x.f1 x.f2 x.f3 x.f4 = 0 then _ else _)
  by_cases h0 : rightL x.f0 x.f1 x.f2 x.f3 x.f4 = 0; rotate_left
  · simp only [if_neg h0]; exact Ev.const rfl
  simp only [if_pos h0]; have r := right_ok h0; have hn := line_len r
  refine Ev.bind (line_ev r) ?_
  simp only [size_mk, if_pos (show acc.length + (lineL x.f0 x.f1 x.f2 x.f3 x.f4).length < 140737488355000 by omega)]
  exact print_go l (i + 1) _ (by omega) (by simp only [List.length_append, lineR, List.length_cons, List.length_nil]; omega)
theorem ref_print_l0 (l : List S46) (hl : l.length ≤ 32) : ∀ (n i : Nat), i + n = l.length → ∀ acc : ByteArray, acc.size ≤ i * 7000 → Ev (fun k => belfryref11_Print.l0 k l acc (i : Int)) (prR (l.drop i) i acc.data.toList)
 | 0, i, hin, acc, ha => by
  rw [List.drop_of_length_le (show l.length ≤ i by omega)]
  exact Ev.succ (g := fun _ => some (acc, 0, 0)) (Ev.const (by rw [prR])) (fun k => by rw [belfryref11_Print.l0, if_neg (by omega)])
 | n + 1, i, hin, acc, ha => by
  have hi : i < l.length := by omega
  have hw : wrap64 ((i : Int) + 1) = ((i + 1 : Nat) : Int) := by rw [wrap_small (n := (i : Int) + 1) (by omega) (by omega)]; omega
  have c1 : (⟨#[10]⟩ : ByteArray).size = 1 := rfl
  have c10 : ([10] : List UInt8).length = 1 := rfl
  refine Ev.succ (g := fun k => (belfryref11_Right.f k l[i].f0 l[i].f1 l[i].f2 l[i].f3 l[i].f4).bind fun t452 => (if t452 = 0 then ((belfryref11_text.f k l[i].f0 l[i].f1 l[i].f2 l[i].f3 l[i].f4).bind fun t454 => (if acc.size + t454.size ≤ 9223372036854775807 then (if (acc ++ t454).size + 1 ≤ 9223372036854775807 then (belfryref11_Print.l0 k l ((acc ++ t454) ++ (⟨#[10]⟩ : ByteArray)) ((i + 1 : Nat) : Int)) else (none)) else (none))) else (some ((⟨#[]⟩ : ByteArray), t452, (i : Int))))) ?_ (fun k => by rw [belfryref11_Print.l0, if_pos (by omega), if_pos (by omega), rd_at46 l i hi, hw])
  refine Ev.bind (ref_right_ev _ _ _ _ _) ?_
  rw [drop_cons33 l i hi, prR]
  show Ev _ (if rightL l[i].f0 l[i].f1 l[i].f2 l[i].f3 l[i].f4 = 0 then _ else _)
  by_cases h0 : rightL l[i].f0 l[i].f1 l[i].f2 l[i].f3 l[i].f4 = 0; rotate_left
  · simp only [if_neg h0]; exact Ev.const rfl
  simp only [if_pos h0]; have r := right_ok h0; have hn := line_len r
  refine Ev.bind (ref_text_ev r) ?_
  simp only [size_mk, ByteArray.size_append, if_pos (show acc.size + (lineL l[i].f0 l[i].f1 l[i].f2 l[i].f3 l[i].f4).length ≤ 9223372036854775807 by omega), if_pos (show acc.size + (lineL l[i].f0 l[i].f1 l[i].f2 l[i].f3 l[i].f4).length + 1 ≤ 9223372036854775807 by omega)]
  have := ref_print_l0 l hl n (i + 1) (by omega) ((acc ++ (⟨(lineL l[i].f0 l[i].f1 l[i].f2 l[i].f3 l[i].f4).toArray⟩ : ByteArray)) ++ (⟨#[10]⟩ : ByteArray)) (by simp only [ByteArray.size_append, size_mk]; omega)
  rw [data_app, data_app, data_mk] at this; exact this
def printR (l : List S46) : ByteArray × Int × Int := if l.length > 32 then (⟨#[]⟩, 7, 0) else prR l 0 []
theorem print_ev (l : List S46) : Ev (fun k => policy_Print.f k l) (printR l) := by
 unfold policy_Print.f printR
 by_cases h : l.length > 32
 · simp only [if_pos h]; exact Ev.const rfl
 simp only [if_neg h]
 exact print_go l 0 [] (by omega) (by rw [List.length_nil]; omega)
theorem ref_print_ev (l : List S46) : Ev (fun k => belfryref11_Print.f k l) (printR l) := by
 unfold belfryref11_Print.f printR
 by_cases h : l.length > 32
 · simp only [if_pos h, if_pos (show (l.length : Int) > 32 by omega)]; exact Ev.const rfl
 simp only [if_neg h, if_neg (show ¬ (l.length : Int) > 32 by omega)]
 exact ref_print_l0 l (by omega) l.length 0 (by omega) (⟨#[]⟩ : ByteArray) (by decide)
end Go.Proofs.YtkedidjjhhjdbaaGreatDoor.Pr
