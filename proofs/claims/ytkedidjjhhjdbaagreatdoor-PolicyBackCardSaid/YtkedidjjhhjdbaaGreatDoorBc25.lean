import Derived.Test.YtkedidjjhhjdbaaGreatDoorBc0
import Derived.Test.YtkedidjjhhjdbaaGreatDoorBc24
section
set_option linter.unusedVariables false
set_option linter.unusedSimpArgs false
namespace Go.Proofs.YtkedidjjhhjdbaaGreatDoor.Pr
open Go.RowKit Go.Proofs.YtkedidjjhhjdbaaGreatDoorW.PrintWords Go.Proofs.YtkedidjjhhjdbaaGreatDoorW.PrintLast Go.Proofs.YtkedidjjhhjdbaaGreatDoorW.PrintMore
theorem allT_at (s : ByteArray) : ∀ (n : Nat) (i : Int), allT s i n = true → ∀ j : Nat, j < n → tailB (bt s (i + j)) = true
 | 0, i, _, j, hj => by omega
 | n + 1, i, h, j, hj => by
  rw [allT, Bool.and_eq_true] at h
  cases j with
  | zero => rw [show i + ((0 : Nat) : Int) = i by omega]; exact h.1
  | succ j =>
   have := allT_at s n (i + 1) h.2 j (by omega)
   rw [show i + ((j + 1 : Nat) : Int) = i + 1 + (j : Int) by omega]
   exact this
theorem key_chars {s : ByteArray} (h : keyB s = true) : ∀ b ∈ s.data.toList, tailB (b.toNat : Int) = true := by
 unfold keyB at h
 simp only [Bool.and_eq_true, decide_eq_true_eq] at h
 intro b hb
 obtain ⟨j, hj, rfl⟩ := List.getElem_of_mem hb
 have hl : s.data.toList.length = s.size := Array.length_toList
 have e := bt_nat s j hj
 cases j with
 | zero =>
  rw [← e]
  have : headB (bt s 0) = true := h.1.2
  show tailB (bt s ((0 : Nat) : Int)) = true
  unfold tailB
  rw [show ((0 : Nat) : Int) = 0 from rfl, this]; rfl
 | succ j =>
  have := allT_at s (s.size - 1) 1 h.2 j (by omega)
  rw [show (1 : Int) + (j : Int) = ((j + 1 : Nat) : Int) by omega, e] at this
  exact this
theorem key_head {s : ByteArray} (h : keyB s = true) : ∃ b l, s.data.toList = b :: l ∧ headB (b.toNat : Int) = true := by
 unfold keyB at h
 simp only [Bool.and_eq_true, decide_eq_true_eq] at h
 have hl : s.data.toList.length = s.size := Array.length_toList
 cases hd : s.data.toList with
 | nil => rw [hd] at hl; simp at hl; omega
 | cons b l =>
  refine ⟨b, l, rfl, ?_⟩
  have h0 : 0 < s.data.toList.length := by rw [hd]; simp
  have := bt_nat s 0 h0
  have e : s.data.toList[0] = b := by simp [hd]
  rw [e] at this; rw [← this]; exact h.1.2
theorem in_cutW (b : UInt8) (h : tailB (b.toNat : Int) = true) : cutW.data.toList.contains b = true := by
 have hb := b.toNat_lt
 have key : ∀ n : Fin 256, tailB ((n.1 : Nat) : Int) = true → cutW.data.toList.contains (UInt8.ofNat n.1) = true := by decide +kernel
 have := key ⟨b.toNat, hb⟩ h
 rwa [show UInt8.ofNat b.toNat = b by simp] at this
theorem tail_plain (b : UInt8) (h : tailB (b.toNat : Int) = true) : b ≠ 61 ∧ b ≠ 33 ∧ b ≠ 34 ∧ b ≠ 125 ∧ b ≠ 44 ∧ b ≠ 10 ∧ b ≠ 32 ∧ b ≠ 92 := by
 have hb := b.toNat_lt
 have key : ∀ n : Fin 256, tailB ((n.1 : Nat) : Int) = true → UInt8.ofNat n.1 ≠ 61 ∧ UInt8.ofNat n.1 ≠ 33 ∧ UInt8.ofNat n.1 ≠ 34 ∧ UInt8.ofNat n.1 ≠ 125 ∧ UInt8.ofNat n.1 ≠ 44 ∧ UInt8.ofNat n.1 ≠ 10 ∧ UInt8.ofNat n.1 ≠ 32 ∧ UInt8.ofNat n.1 ≠ 92 := by decide +kernel
 have := key ⟨b.toNat, hb⟩ h
 rwa [show UInt8.ofNat b.toNat = b by simp] at this
theorem head_word (b : UInt8) (h : headB (b.toNat : Int) = true) : (!(decide (48 ≤ b.toNat) && decide (b.toNat ≤ 57)) && !(b == 46)) = true := by
 have hb := b.toNat_lt
 have key : ∀ n : Fin 256, headB ((n.1 : Nat) : Int) = true → (!(decide (48 ≤ (UInt8.ofNat n.1).toNat) && decide ((UInt8.ofNat n.1).toNat ≤ 57)) && !(UInt8.ofNat n.1 == 46)) = true := by decide +kernel
 have := key ⟨b.toNat, hb⟩ h
 rwa [show UInt8.ofNat b.toNat = b by simp] at this
theorem word_key {s : ByteArray} (h : keyB s = true) : wordB s.data.toList = true := by
 obtain ⟨b, l, e, hh⟩ := key_head h
 have hc := key_chars h
 rw [e] at hc ⊢
 show ((!(decide (48 ≤ b.toNat) && decide (b.toNat ≤ 57)) && !(b == 46)) && (b :: l).all (fun b => cutW.data.toList.contains b)) = true
 rw [head_word b hh, Bool.true_and, List.all_eq_true]
 exact fun x hx => in_cutW x (hc x hx)
theorem indexAny_at (c : UInt8) (t : List UInt8) (hc : c = 61 ∨ c = 33) : ∀ a : List UInt8, (∀ b ∈ a, b ≠ 61 ∧ b ≠ 33) → Lib.indexAny (a ++ c :: t) [61, 33] = (a.length : Int)
 | [], _ => by
  have : ([61, 33] : List UInt8).contains c = true := by rcases hc with rfl | rfl <;> decide
  show Lib.indexAny (c :: t) [61, 33] = _
  rw [Lib.indexAny, if_pos this]; rfl
 | b :: a, h => by
  have hb := h b (List.mem_cons_self ..)
  have ih := indexAny_at c t hc a (fun x hx => h x (List.mem_cons_of_mem _ hx))
  have : ([61, 33] : List UInt8).contains b = false := by simp [hb.1, hb.2]
  rw [List.cons_append, Lib.indexAny, if_neg (by rw [this]; simp), ih, if_neg (by first | (simp; done) | (simp; omega)), List.length_cons]
  omega
theorem op_cases (c : Int) (h1 : 1 ≤ c) (h4 : c ≤ 4) : ∃ n : Nat, c = (n : Int) ∧ 1 ≤ n ∧ n ≤ 4 ∧ (opB c).data.toList = sg n ∧ (∃ x t, sg n = x :: t ∧ (x = 61 ∨ x = 33)) ∧ ∀ l, opAt (sg n ++ (34 :: l)) = n := by
 have : c = 1 ∨ c = 2 ∨ c = 3 ∨ c = 4 := by omega
 rcases this with rfl | rfl | rfl | rfl
 · exact ⟨1, rfl, by omega, by omega, rfl, ⟨61, [], rfl, .inl rfl⟩, fun l => by simp [opAt, sg, List.isPrefixOf]⟩
 · exact ⟨2, rfl, by omega, by omega, rfl, ⟨33, [61], rfl, .inr rfl⟩, fun l => by simp [opAt, sg, List.isPrefixOf]⟩
 · exact ⟨3, rfl, by omega, by omega, rfl, ⟨61, [126], rfl, .inl rfl⟩, fun l => by simp [opAt, sg, List.isPrefixOf]⟩
 exact ⟨4, rfl, by omega, by omega, rfl, ⟨33, [126], rfl, .inr rfl⟩, fun l => by simp [opAt, sg, List.isPrefixOf]⟩
theorem stepL_mat (m : S33) (h : MOk m) (rest : List UInt8) : stepL (matL m ++ rest) = some (m, trim2 rest) := by
 obtain ⟨n, hn, n1, n4, ho, ⟨x, t, hx, hxx⟩, hop⟩ := op_cases m.f0 h.o1 h.o4
 have hk := key_chars h.ke; have hw := word_key h.ke
 have e : matL m ++ rest = m.f1.data.toList ++ (sg n ++ (34 :: (escL m.f2.data.toList ++ (34 :: rest)))) := by
  unfold matL quoL
  rw [ho]
  simp
 have hi : Lib.indexAny (matL m ++ rest) [61, 33] = (m.f1.data.toList.length : Int) := by
  rw [e, hx]
  exact indexAny_at x _ hxx _ (fun b hb => ⟨(tail_plain b (hk b hb)).1, (tail_plain b (hk b hb)).2.1⟩)
 have hne : 1 ≤ m.f1.data.toList.length := by obtain ⟨b, l, e, _⟩ := key_head h.ke; rw [e]; simp
 unfold stepL
 rw [hi, if_neg (by omega), Int.toNat_natCast, e, List.take_left, List.drop_left, if_neg (by rw [hw]; simp), hop, if_neg (by omega), List.drop_left]
 have he : endAt (34 :: (escL m.f2.data.toList ++ (34 :: rest))) 1 = some ((escL m.f2.data.toList).length + 1) := by
  unfold endAt
  show (endL (escL m.f2.data.toList ++ (34 :: rest))).map (· + 1) = _
  rw [endL_esc]; rfl
 rw [he, Option.bind_some]
 have ht : (34 :: (escL m.f2.data.toList ++ (34 :: rest))).take ((escL m.f2.data.toList).length + 1 + 1) = 34 :: (escL m.f2.data.toList ++ [34]) := by
  rw [List.take_succ_cons, show escL m.f2.data.toList ++ (34 :: rest) = (escL m.f2.data.toList ++ [34]) ++ rest by simp, show (escL m.f2.data.toList).length + 1 = (escL m.f2.data.toList ++ [34]).length by simp, List.take_left]
 have hd : (34 :: (escL m.f2.data.toList ++ (34 :: rest))).drop ((escL m.f2.data.toList).length + 1 + 1) = rest := by
  rw [List.drop_succ_cons, show escL m.f2.data.toList ++ (34 :: rest) = (escL m.f2.data.toList ++ [34]) ++ rest by simp, show (escL m.f2.data.toList).length + 1 = (escL m.f2.data.toList ++ [34]).length by simp, List.drop_left]
 rw [ht, hd, unquote_esc, Option.bind_some, ← hn]
 show some ((⟨m.f0, B m.f1.data.toList, B m.f2.data.toList⟩ : S33), trim2 rest) = _
 rw [← B_eta, ← B_eta]
theorem trim2_sep (l : List UInt8) : trim2 ([44, 32] ++ l) = l := by
 unfold trim2
 rw [if_pos (pre_app _ _)]; rfl
theorem mat_long (m : S33) : 3 ≤ (matL m).length + 1 := by
 unfold matL quoL
 simp only [List.length_append, List.length_cons, List.length_nil]; omega
theorem scope_back : ∀ (m : S33) (l : List S33), (∀ x ∈ m :: l, MOk x) → ∀ x4 : List S33, x4.length + l.length ≤ 100 → (comL ((m :: l).map matL) ++ [125]).length ≤ 70000 → Ev (fun k => policy_scope.l0 k x4 (B (comL ((m :: l).map matL) ++ [125]))) (x4 ++ m :: l, true)
 | m, [], h, x4, hx, hl => by
  have hm := stepL_mat m (h m (List.mem_cons_self ..)) [125]
  have ht : trim2 [125] = [125] := rfl
  rw [ht] at hm; have hlong := mat_long m
  refine (scope_step (matL m ++ [125]) hl (fun e => ?_) x4 (by omega)).2 m [125] _ hm ?_
  ·
   have := congrArg List.length e
   simp only [List.length_append, List.length_cons, List.length_nil] at this
   omega
  refine Ev.succ (g := fun _ => some (x4 ++ [m], true)) (Ev.const rfl) (fun k => ?_)
  rw [policy_scope.l0, if_pos (by rw [B_toList]), decide_eq_true (by first | (simp; done) | (simp; omega))]
 | m, m2 :: l, h, x4, hx, hl => by
  have e : comL ((m :: m2 :: l).map matL) ++ [125] = matL m ++ ([44, 32] ++ (comL ((m2 :: l).map matL) ++ [125])) := by
   rw [List.map_cons, List.map_cons, comL]
   simp
  have hm := stepL_mat m (h m (List.mem_cons_self ..)) ([44, 32] ++ (comL ((m2 :: l).map matL) ++ [125])); rw [trim2_sep] at hm; have hlong := mat_long m
  rw [e] at hl ⊢
  have hl2 : (comL ((m2 :: l).map matL) ++ [125]).length ≤ 70000 := by simp only [List.length_append] at hl ⊢; omega
  have ih := scope_back m2 l (fun x hx => h x (List.mem_cons_of_mem _ hx)) (x4 ++ [m]) (by simp only [List.length_append, List.length_cons, List.length_nil] at *; omega) hl2
  rw [List.append_assoc] at ih
  refine (scope_step _ hl (fun e => ?_) x4 (by omega)).2 m _ _ hm ih
  have := congrArg List.length e
  simp only [List.length_append, List.length_cons, List.length_nil] at this
  omega
theorem scope_match (sc : List S33) (hne : sc ≠ []) (h8 : sc.length ≤ 8) (h : ∀ m ∈ sc, MOk m) : Ev (fun k => policy_scope.f k (B (matchL sc))) (sc, true) := by
 have hc := com_mat sc h8 h
 have ht := trimPrefix_B (matchL sc) [123] (by unfold matchL; simp only [List.length_cons, List.length_append, List.length_nil]; omega)
 have hp : ([123] : List UInt8).isPrefixOf (matchL sc) = true := pre_app [123] _
 rw [if_pos hp] at ht
 have hd : (matchL sc).drop ([123] : List UInt8).length = comL (sc.map matL) ++ [125] := rfl
 rw [hd] at ht
 unfold policy_scope.f
 show Ev (fun k => (strings_TrimPrefix.f (B (matchL sc)) (B [123])).bind _) _
 rw [ht]; simp only [Option.bind_some]
 cases sc with
 | nil => exact absurd rfl hne
 | cons m l => exact scope_back m l h [] (by simp only [List.length_cons, List.length_nil] at *; omega) (by simp only [List.length_append, List.length_cons, List.length_nil] at *; omega)
def bracesL : Bool → List UInt8 → Option Nat
  | _, [] => none
  | q, [b] => if b = 92 ∧ q = true then none else if b = 34 then none else if b = 125 ∧ q = false then some 1 else none
  | q, b :: c :: l => if b = 92 ∧ q = true then (bracesL q l).map (· + 2) else if b = 34 then (bracesL (!q) (c :: l)).map (· + 1) else if b = 125 ∧ q = false then some 1 else (bracesL q (c :: l)).map (· + 1)
theorem br_plain (b : UInt8) (l : List UInt8) (h1 : b ≠ 34) (h2 : b ≠ 125) : bracesL false (b :: l) = (bracesL false l).map (· + 1) := by
 cases l <;> simp [bracesL, h1, h2]
theorem br_quote (q : Bool) (l : List UInt8) : bracesL q (34 :: l) = (bracesL (!q) l).map (· + 1) := by
 cases l <;> simp [bracesL]
theorem br_close (l : List UInt8) : bracesL false (125 :: l) = some 1 := by
 cases l <;> simp [bracesL]
theorem br_in (b : UInt8) (l : List UInt8) (h1 : b ≠ 34) (h2 : b ≠ 92) : bracesL true (b :: l) = (bracesL true l).map (· + 1) := by
 cases l <;> simp [bracesL, h1, h2]
theorem br_esc (c : UInt8) (l : List UInt8) : bracesL true (92 :: c :: l) = (bracesL true l).map (· + 2) := by simp [bracesL]
theorem map_add (o : Option Nat) (a b : Nat) : (o.map (· + a)).map (· + b) = o.map (· + (a + b)) := by
 cases o with
 | none => rfl
 | some n => show some (n + a + b) = some (n + (a + b)); congr 1; omega
theorem br_text (l : List UInt8) : ∀ a : List UInt8, (∀ b ∈ a, b ≠ 34 ∧ b ≠ 125) → bracesL false (a ++ l) = (bracesL false l).map (· + a.length)
 | [], _ => by simp
 | b :: a, h => by
  have hb := h b (List.mem_cons_self ..)
  rw [List.cons_append, br_plain b _ hb.1 hb.2, br_text l a (fun x hx => h x (List.mem_cons_of_mem _ hx)), map_add, List.length_cons]
theorem br_quoted (l : List UInt8) : ∀ v : List UInt8, bracesL true (escL v ++ (34 :: l)) = (bracesL false l).map (· + ((escL v).length + 1))
 | [] => by
  show bracesL true (34 :: l) = _
  rw [br_quote]; rfl
 | b :: v => by
  have ih := br_quoted l v
  have e : escL (b :: v) = esc b ++ escL v := by simp [escL]
  rw [e, List.append_assoc, List.length_append]
  unfold esc
  by_cases h10 : b = 10
  ·
   rw [if_pos h10]
   show bracesL true (92 :: 110 :: (escL v ++ 34 :: l)) = _
   rw [br_esc, ih, map_add]
   congr 1; funext n; first | (simp; done) | (simp; omega)
  rw [if_neg h10]; by_cases h92 : b = 92
  ·
   rw [if_pos h92]
   show bracesL true (92 :: 92 :: (escL v ++ 34 :: l)) = _
   rw [br_esc, ih, map_add]
   congr 1; funext n; first | (simp; done) | (simp; omega)
  rw [if_neg h92]; by_cases h34 : b = 34
  ·
   rw [if_pos h34]
   show bracesL true (92 :: 34 :: (escL v ++ 34 :: l)) = _
   rw [br_esc, ih, map_add]
   congr 1; funext n; first | (simp; done) | (simp; omega)
  rw [if_neg h34]
  show bracesL true (b :: (escL v ++ 34 :: l)) = _
  rw [br_in b _ h34 h92, ih, map_add]
  congr 1; funext n; first | (simp; done) | (simp; omega)
theorem br_mat (m : S33) (h : MOk m) (l : List UInt8) : bracesL false (matL m ++ l) = (bracesL false l).map (· + (matL m).length) := by
 obtain ⟨n, hn, n1, n4, ho, _, _⟩ := op_cases m.f0 h.o1 h.o4
 have hk := key_chars h.ke
 have hs : ∀ b ∈ sg n, b ≠ 34 ∧ b ≠ 125 := by
  have : n = 1 ∨ n = 2 ∨ n = 3 ∨ n = 4 := by omega
  rcases this with rfl | rfl | rfl | rfl <;> decide
 have e : matL m ++ l = (m.f1.data.toList ++ sg n) ++ (34 :: (escL m.f2.data.toList ++ (34 :: l))) := by
  unfold matL quoL
  rw [ho]
  simp
 have el : (matL m).length = (m.f1.data.toList ++ sg n).length + ((escL m.f2.data.toList).length + 2) := by
  unfold matL quoL
  rw [ho]
  simp only [List.length_append, List.length_cons, List.length_nil] <;> omega
 rw [e, br_text _ _ (fun b hb => by
  rcases List.mem_append.1 hb with hb | hb
  · have := tail_plain b (hk b hb); exact ⟨this.2.2.1, this.2.2.2.1⟩
  exact hs b hb), br_quote, Bool.not_false, br_quoted, map_add, map_add, el]
 congr 1; funext n; omega
theorem br_com (l : List UInt8) : ∀ sc : List S33, (∀ m ∈ sc, MOk m) → bracesL false (comL (sc.map matL) ++ l) = (bracesL false l).map (· + (comL (sc.map matL)).length)
 | [], _ => by simp [comL]
 | [m], h => br_mat m (h m (List.mem_cons_self ..)) l
 | m :: m2 :: r, h => by
  have ih := br_com l (m2 :: r) (fun x hx => h x (List.mem_cons_of_mem _ hx))
  rw [List.map_cons, List.map_cons, comL, List.append_assoc, br_mat m (h m (List.mem_cons_self ..)), List.append_assoc, br_text _ [44, 32] (by decide)]
  rw [List.map_cons] at ih; rw [ih, map_add, map_add]
  congr 1; funext n; first | (simp; done) | (simp; omega)
theorem br_match (sc : List S33) (h : ∀ m ∈ sc, MOk m) (l : List UInt8) : bracesL false (matchL sc ++ l) = some (matchL sc).length := by
 unfold matchL
 rw [List.cons_append, br_plain 123 _ (by decide) (by decide), List.append_assoc, br_com _ sc h]
 show Option.map _ (Option.map _ (bracesL false (125 :: l))) = _
 rw [br_close]
 simp
 omega
theorem bracesL_len : ∀ (l : List UInt8) (q : Bool) (n : Nat), bracesL q l = some n → 1 ≤ n ∧ n ≤ l.length
 | [], q, n, h => by cases h
 | [b], q, n, h => by
  rw [bracesL] at h
  split at h
  · cases h
  split at h
  · cases h
  split at h
  rotate_left
  · cases h
  cases h; simp
 | b :: c :: l, q, n, h => by
  rw [bracesL] at h
  split at h
  ·
   obtain ⟨p1, h1, rfl⟩ := Option.map_eq_some_iff.1 h
   have := bracesL_len l q p1 h1
   simp only [List.length_cons]; omega
  split at h
  ·
   obtain ⟨p1, h1, rfl⟩ := Option.map_eq_some_iff.1 h
   have := bracesL_len (c :: l) (!q) p1 h1
   simp only [List.length_cons] at *; omega
  split at h
  · cases h; simp
  obtain ⟨p1, h1, rfl⟩ := Option.map_eq_some_iff.1 h
  have := bracesL_len (c :: l) q p1 h1
  simp only [List.length_cons] at *; omega
def brI (i : Nat) (o : Option Nat) : Int := match o with
  | none => -1
  | some n => ((i + n : Nat) : Int)
theorem brI_map (i a : Nat) (o : Option Nat) : brI i (o.map (· + a)) = brI (i + a) o := by
 cases o with
 | none => rfl
 | some n => show ((i + (n + a) : Nat) : Int) = ((i + a + n : Nat) : Int); omega
theorem braces_l0 (t : List UInt8) (ht : t.length ≤ 70000) : ∀ (l : List UInt8) (i : Nat) (q : Bool), t.drop i = l → i ≤ t.length + 1 → Ev (fun k => policy_braces.l0 k (B t) q (i : Int)) (brI i (bracesL q l))
 | l, i, q, hl, hi => by
  have hlen : l.length = t.length - i := by rw [← hl, List.length_drop]
  have hw := wrap_next i 100000 (by omega) (by omega); have hw2 := wrap_next (i + 1) 100000 (by omega) (by omega)
  match l, hl, hlen with
  | [], hl, hlen =>
   simp only [List.length_nil] at hlen
   exact Ev.succ (g := fun _ => some (-1)) (Ev.const (by cases q <;> rfl)) (fun k => by rw [policy_braces.l0, if_neg (by rw [B_size]; omega)])
  | b :: r, hl, hlen =>
   simp only [List.length_cons] at hlen
   have hit : i < t.length := by omega
   have hb : t[i] = b := by
    have := List.getElem?_drop (xs := t) (i := i) (j := 0)
    rw [hl] at this
    simp only [List.getElem?_cons_zero, Nat.add_zero] at this
    exact (Option.some.inj (this.trans (List.getElem?_eq_getElem hit))).symm
   have hd1 : t.drop (i + 1) = r := by rw [← List.drop_drop, hl]; rfl
   have hbt := bt_B t i hit; rw [hb] at hbt
   have n34 : ((b.toNat : Int) = 34) ↔ b = 34 := ⟨fun e => toNat_inj (n := 34) (by omega) e, fun e => by subst e; rfl⟩
   have n92 : ((b.toNat : Int) = 92) ↔ b = 92 := ⟨fun e => toNat_inj (n := 92) (by omega) e, fun e => by subst e; rfl⟩
   have n125 : ((b.toNat : Int) = 125) ↔ b = 125 := ⟨fun e => toNat_inj (n := 125) (by omega) e, fun e => by subst e; rfl⟩
   have ih1 := fun q => braces_l0 t ht r (i + 1) q hd1 (by omega)
   by_cases hesc : b = 92 ∧ q = true
   ·
    obtain ⟨h92, rfl⟩ := hesc
    have hd2 : t.drop (i + 2) = r.drop 1 := by rw [show i + 2 = (i + 1) + 1 from rfl, ← List.drop_drop, hd1]
    have ih2 := braces_l0 t ht (r.drop 1) (i + 2) true hd2 (by omega)
    have hu : brI i (bracesL true (b :: r)) = brI (i + 2) (bracesL true (r.drop 1)) := by
     subst h92
     cases r with
     | nil => rfl
     | cons c r => rw [br_esc, brI_map]; rfl
    rw [hu]
    refine Ev.succ (g := fun k => policy_braces.j1 k (B t) true (i : Int) true) ?_ (fun k => by rw [policy_braces.l0, if_pos (by rw [B_size]; omega), if_pos (by omega), hbt, if_pos (n92.2 h92)])
    exact Ev.succ ih2 (fun k => by rw [policy_braces.j1, if_pos rfl, hw, hw2])
   have start : ∀ k, policy_braces.l0 (k + 1) (B t) q (i : Int) = policy_braces.j1 k (B t) q (i : Int) false := by
    intro k
    rw [policy_braces.l0, if_pos (by rw [B_size]; omega), if_pos (by omega), hbt]
    by_cases h92 : b = 92; rotate_left
    · rw [if_neg (fun e => h92 (n92.1 e))]
    have : q = false := by cases q with | false => rfl | true => exact absurd ⟨h92, rfl⟩ hesc
    rw [if_pos (n92.2 h92), this]
   refine Ev.succ (g := fun k => policy_braces.j1 k (B t) q (i : Int) false) ?_ start
   by_cases h34 : b = 34
   ·
    subst h34; rw [br_quote, brI_map]
    exact Ev.succ (ih1 (!q)) (fun k => by rw [policy_braces.j1, if_neg (by simp), if_pos (by omega), if_pos (by rw [B_size]; omega), hbt, if_pos (n34.2 rfl), hw])
   by_cases h125 : b = 125; rotate_left
   ·
    have hu : bracesL q (b :: r) = (bracesL q r).map (· + 1) := by
     cases q with
     | false => exact br_plain b r h34 h125
     | true => exact br_in b r h34 (fun e => hesc ⟨e, rfl⟩)
    rw [hu, brI_map]
    exact Ev.succ (ih1 q) (fun k => by rw [policy_braces.j1, if_neg (by simp), if_pos (by omega), if_pos (by rw [B_size]; omega), hbt, if_neg (fun e => h34 (n34.1 e)), if_neg (fun e => h125 (n125.1 e)), hw])
   subst h125
   cases q with
   | false =>
    rw [br_close]
    exact Ev.succ (g := fun _ => some (((i + 1 : Nat)) : Int)) (Ev.const rfl) (fun k => by rw [policy_braces.j1, if_neg (by simp), if_pos (by omega), if_pos (by rw [B_size]; omega), hbt, if_neg (fun e => h34 (n34.1 e)), if_pos (n125.2 rfl), if_neg (by simp), hw])
   | true =>
    rw [br_in 125 r (by decide) (by decide), brI_map]
    exact Ev.succ (ih1 true) (fun k => by rw [policy_braces.j1, if_neg (by simp), if_pos (by omega), if_pos (by rw [B_size]; omega), hbt, if_neg (fun e => h34 (n34.1 e)), if_pos (n125.2 rfl), if_pos rfl, hw])
termination_by l => l.length
decreasing_by
  all_goals simp_wf
  all_goals (try simp only [List.length_drop])
  all_goals omega
theorem braces_ev (t : List UInt8) (ht : t.length ≤ 70000) : Ev (fun k => policy_braces.f k (B t)) (brI 0 (bracesL false t)) := braces_l0 t ht t 0 false rfl (by omega)
end Go.Proofs.YtkedidjjhhjdbaaGreatDoor.Pr
end
section
set_option linter.unusedVariables false
set_option linter.unusedSimpArgs false
namespace Go.Proofs.YtkedidjjhhjdbaaGreatDoor.Pr
open Go.RowKit Go.Proofs.YtkedidjjhhjdbaaGreatDoorW.PrintWords Go.Proofs.YtkedidjjhhjdbaaGreatDoorW.PrintLast Go.Proofs.YtkedidjjhhjdbaaGreatDoorW.PrintMore
theorem join_strG (l : List ByteArray) (hl : l.length ≤ 1000000) (h : ∀ x ∈ l, x.size ≤ 300000) : strings_Join.f l (⟨#[44, 32]⟩ : ByteArray) = some ⟨(comL (l.map (·.data.toList))).toArray⟩ := by
 unfold strings_Join.f
 have e : (⟨#[44, 32]⟩ : ByteArray).data.toList = [44, 32] := rfl
 rw [e, join_com]
 have := comL_len 300000 (l.map (·.data.toList)) (fun x hx => by obtain ⟨m, hm, rfl⟩ := List.mem_map.1 hx; rw [← size_data]; exact h m hm)
 rw [List.length_map] at this
 have h2 : l.length * (300000 + 2) ≤ 1000000 * (300000 + 2) := Nat.mul_le_mul_right _ hl
 rw [if_pos ⟨by omega, by omega⟩]
theorem mat_sizeG {m : S33} (h : m.f1.size ≤ 70000 ∧ m.f2.size ≤ 70000) : (matB m).size ≤ 300000 := by
 have h3 := opB_size m.f0; have h4 := quoB_size m.f2
 unfold matB
 rw [ByteArray.size_append, ByteArray.size_append]; omega
theorem com_matG (l : List S33) (h8 : l.length ≤ 80000) (h : ∀ m ∈ l, m.f1.size ≤ 70000 ∧ m.f2.size ≤ 70000) : (comL (l.map matL)).length ≤ 18000000000 := by
 have := comL_len 220000 (l.map matL) (fun x hx => by
  obtain ⟨m, hm, rfl⟩ := List.mem_map.1 hx
  have h3 := opB_size m.f0; have h4 := quoB_size m.f2
  have := h m hm
  rw [← matB_data, ← size_data]
  unfold matB
  rw [ByteArray.size_append, ByteArray.size_append]
  omega)
 rw [List.length_map] at this
 have h2 : l.length * (220000 + 2) ≤ 80000 * (220000 + 2) := Nat.mul_le_mul_right _ h8
 omega
theorem match_l0G (l : List S33) (h8 : l.length ≤ 80000) (h : ∀ m ∈ l, m.f1.size ≤ 70000 ∧ m.f2.size ≤ 70000) : ∀ (n i : Nat), i + n = l.length →
  Ev (fun k => attr_MatchText.l0 k ((l.take i).map matB) l (l.length : Int) (i : Int)) ⟨(matchL l).toArray⟩
 | 0, i, hin => by
  rw [List.take_of_length_le (show l.length ≤ i by omega)]
  have hj := join_strG (l.map matB) (by rw [List.length_map]; omega) (fun x hx => by obtain ⟨m, hm, rfl⟩ := List.mem_map.1 hx; exact mat_sizeG (h m hm))
  rw [join_mat] at hj; have hc := com_matG l h8 h
  refine Ev.succ (g := fun _ => some ⟨(matchL l).toArray⟩) (Ev.const rfl) (fun k => ?_)
  rw [attr_MatchText.l0, if_neg (by omega), hj, Option.bind_some, if_pos (by rw [size_mk]; omega), if_pos (by rw [ByteArray.size_append]; have h1 : (⟨#[123]⟩ : ByteArray).size = 1 := rfl; have h2 := size_mk (comL (l.map matL)); omega)]
  exact congrArg some (bytes_eq (by rw [data_app, data_app, data_mk]; rfl))
 | n + 1, i, hin => by
  have hi : i < l.length := by omega
  have hx := h l[i] (List.getElem_mem hi); have h1 := hx.1; have h2 := hx.2; have h3 := opB_size l[i].f0; have h4 := quoB_size l[i].f2
  refine Ev.succ (match_l0G l h8 h n (i + 1) (by omega)) (fun k => ?_)
  rw [attr_MatchText.l0, if_pos (by omega), if_pos (by omega), if_pos (by omega), rd_at33 l i hi, sign_op, Option.bind_some, if_pos (by omega), attr_quote _ (by omega), Option.bind_some, if_pos (by rw [ByteArray.size_append]; omega), if_pos (by simp; omega), wrap_small (n := (i : Int) + 1) (by omega) (by omega), show (i : Int) + 1 = ((i + 1 : Nat) : Int) by omega, List.take_succ_eq_append_getElem hi, List.map_append]
  rfl
theorem match_evG (l : List S33) (h8 : l.length ≤ 80000) (h : ∀ m ∈ l, m.f1.size ≤ 70000 ∧ m.f2.size ≤ 70000) : Ev (fun k => attr_MatchText.f k l) ⟨(matchL l).toArray⟩ := match_l0G l h8 h l.length 0 (by omega)
structure LBd (tn : ByteArray) (sc : List S33) (h : List ByteArray) : Prop where
  ts : tn.size ≤ 70000
  s8 : sc.length ≤ 80000
  sm : ∀ m ∈ sc, m.f1.size ≤ 70000 ∧ m.f2.size ≤ 70000
  h16 : h.length ≤ 80000
  hk : ∀ x ∈ h, x.size ≤ 70000
section
variable {d : Bool} {kd : Int} {tn : ByteArray} {sc : List S33} {h : List ByteArray}
theorem com_hideG (r : LBd tn sc h) : (comL (h.map (·.data.toList))).length ≤ 6000000000 := by
 have := comL_len 70000 (h.map (·.data.toList)) (fun x hx => by obtain ⟨m, hm, rfl⟩ := List.mem_map.1 hx; rw [← size_data]; exact r.hk m hm)
 rw [List.length_map] at this
 have h2 : h.length * (70000 + 2) ≤ 80000 * (70000 + 2) := Nat.mul_le_mul_right _ r.h16
 omega
theorem line_j0G (r : LBd tn sc h) (x3 v : ByteArray) (hx : x3.size ≤ 5) (hv : v.data.toList = x3.data.toList ++ ([32] ++ ((kindB kd).data.toList ++ ([32, 116, 111, 32] ++ (tn.data.toList ++ (whereL sc ++ hideL h)))))) : Ev (fun k => policy_line.j0 k x3 d kd tn sc h) v := by
 have h1 := kindB_size kd; have h2 := r.ts; have hm := com_matG sc r.s8 r.sm; have hh := com_hideG r
 have hj := join_strG h (by have := r.h16; omega) (fun x hx => by have := r.hk x hx; omega)
 have c1 : (⟨#[32]⟩ : ByteArray).size = 1 := rfl
 have c4 : (⟨#[32, 116, 111, 32]⟩ : ByteArray).size = 4 := rfl
 have c7 : (⟨#[32, 119, 104, 101, 114, 101, 32]⟩ : ByteArray).size = 7 := rfl
 have c6 : (⟨#[32, 104, 105, 100, 101, 32]⟩ : ByteArray).size = 6 := rfl
 have em : (⟨(matchL sc).toArray⟩ : ByteArray).size ≤ 20000000000 := by rw [size_mk]; unfold matchL; simp only [List.length_cons, List.length_append, List.length_nil]; omega
 have eh : (⟨(comL (h.map (·.data.toList))).toArray⟩ : ByteArray).size ≤ 6000000000 := by rw [size_mk]; exact hh
 have hS : sc.length > 0 → sc ≠ [] := fun h e => by rw [e] at h; cases h
 have hH : h.length > 0 → h ≠ [] := fun h e => by rw [e] at h; cases h
 by_cases s0 : (sc.length : Int) > 0; rotate_left
 ·
  by_cases h0 : (h.length : Int) > 0; rotate_left
  ·
   refine Ev.succ (g := fun _ => some v) (Ev.const rfl) (fun k => ?_)
   rw [policy_line.j0, kind_eq, Option.bind_some, if_pos (by omega), if_pos (by simp only [ByteArray.size_append]; omega), if_pos (by simp only [ByteArray.size_append]; omega), if_pos (by simp only [ByteArray.size_append]; omega), if_neg s0, if_neg h0]
   congr 1
   refine (bytes_eq ?_).trans (bytes_eq hv).symm
   simp only [data_app, whereL, hideL, if_pos (List.length_eq_zero_iff.1 (show sc.length = 0 by omega)), if_pos (List.length_eq_zero_iff.1 (show h.length = 0 by omega)), List.append_assoc, List.append_nil]
  refine Ev.succ (g := fun _ => some v) (Ev.const rfl) (fun k => ?_)
  rw [policy_line.j0, kind_eq, Option.bind_some, if_pos (by omega), if_pos (by simp only [ByteArray.size_append]; omega), if_pos (by simp only [ByteArray.size_append]; omega), if_pos (by simp only [ByteArray.size_append]; omega), if_neg s0, if_pos h0, hj, Option.bind_some, if_pos (by omega), if_pos (by simp only [ByteArray.size_append]; omega)]
  congr 1
  refine (bytes_eq ?_).trans (bytes_eq hv).symm
  simp only [data_app, whereL, hideL, if_pos (List.length_eq_zero_iff.1 (show sc.length = 0 by omega)), if_neg (hH (by omega)), List.append_assoc, List.nil_append]
 by_cases h0 : (h.length : Int) > 0; rotate_left
 ·
  refine Ev.succ (g := fun k => (attr_MatchText.f k sc).bind fun t149 => (if 7 + t149.size ≤ 9223372036854775807 then (if (x3 ++ ((((⟨#[32]⟩ : ByteArray) ++ kindB kd) ++ (⟨#[32, 116, 111, 32]⟩ : ByteArray)) ++ tn)).size + ((⟨#[32, 119, 104, 101, 114, 101, 32]⟩ : ByteArray) ++ t149).size ≤ 9223372036854775807 then (some ((x3 ++ ((((⟨#[32]⟩ : ByteArray) ++ kindB kd) ++ (⟨#[32, 116, 111, 32]⟩ : ByteArray)) ++ tn)) ++ ((⟨#[32, 119, 104, 101, 114, 101, 32]⟩ : ByteArray) ++ t149))) else (none)) else (none))) ?_ (fun k => by
   rw [policy_line.j0, kind_eq, Option.bind_some, if_pos (by omega), if_pos (by simp only [ByteArray.size_append]; omega), if_pos (by simp only [ByteArray.size_append]; omega), if_pos (by simp only [ByteArray.size_append]; omega), if_pos s0]
   simp only [if_neg h0])
  refine Ev.bind (match_evG sc r.s8 r.sm) ?_
  refine Ev.const ?_
  rw [if_pos (by omega), if_pos (by simp only [ByteArray.size_append]; omega)]
  congr 1
  refine (bytes_eq ?_).trans (bytes_eq hv).symm
  simp only [data_app, whereL, hideL, if_neg (hS (by omega)), if_pos (List.length_eq_zero_iff.1 (show h.length = 0 by omega)), List.append_assoc, List.append_nil]
 refine Ev.succ (g := fun k => (attr_MatchText.f k sc).bind fun t149 => (if 7 + t149.size ≤ 9223372036854775807 then (if (x3 ++ ((((⟨#[32]⟩ : ByteArray) ++ kindB kd) ++ (⟨#[32, 116, 111, 32]⟩ : ByteArray)) ++ tn)).size + ((⟨#[32, 119, 104, 101, 114, 101, 32]⟩ : ByteArray) ++ t149).size ≤ 9223372036854775807 then (if 6 + (⟨(comL (h.map (·.data.toList))).toArray⟩ : ByteArray).size ≤ 9223372036854775807 then (if ((x3 ++ ((((⟨#[32]⟩ : ByteArray) ++ kindB kd) ++ (⟨#[32, 116, 111, 32]⟩ : ByteArray)) ++ tn)) ++ ((⟨#[32, 119, 104, 101, 114, 101, 32]⟩ : ByteArray) ++ t149)).size + ((⟨#[32, 104, 105, 100, 101, 32]⟩ : ByteArray) ++ (⟨(comL (h.map (·.data.toList))).toArray⟩ : ByteArray)).size ≤ 9223372036854775807 then (some (((x3 ++ ((((⟨#[32]⟩ : ByteArray) ++ kindB kd) ++ (⟨#[32, 116, 111, 32]⟩ : ByteArray)) ++ tn)) ++ ((⟨#[32, 119, 104, 101, 114, 101, 32]⟩ : ByteArray) ++ t149)) ++ ((⟨#[32, 104, 105, 100, 101, 32]⟩ : ByteArray) ++ (⟨(comL (h.map (·.data.toList))).toArray⟩ : ByteArray)))) else (none)) else (none)) else (none)) else (none))) ?_ (fun k => by
  rw [policy_line.j0, kind_eq, Option.bind_some, if_pos (by omega), if_pos (by simp only [ByteArray.size_append]; omega), if_pos (by simp only [ByteArray.size_append]; omega), if_pos (by simp only [ByteArray.size_append]; omega), if_pos s0]
  simp only [if_pos h0, hj, Option.bind_some])
 refine Ev.bind (match_evG sc r.s8 r.sm) ?_
 refine Ev.const ?_
 rw [if_pos (by omega), if_pos (by simp only [ByteArray.size_append]; omega), if_pos (by omega), if_pos (by simp only [ByteArray.size_append]; omega)]
 congr 1
 refine (bytes_eq ?_).trans (bytes_eq hv).symm
 simp only [data_app, whereL, hideL, if_neg (hS (by omega)), if_neg (hH (by omega)), List.append_assoc]
theorem line_evG (r : LBd tn sc h) : Ev (fun k => policy_line.f k d kd tn sc h) ⟨(lineL d kd tn sc h).toArray⟩ := by
 unfold policy_line.f
 by_cases hd : d = true
 ·
  simp only [if_pos hd]
  refine line_j0G r _ _ (by decide) ?_
  rw [data_mk, lineL, headL, if_pos hd]
  simp
 simp only [if_neg hd]
 refine line_j0G r _ _ (by decide) ?_
 rw [data_mk, lineL, headL, if_neg hd]
 simp
end
end Go.Proofs.YtkedidjjhhjdbaaGreatDoor.Pr
end
section
set_option linter.unusedVariables false
set_option linter.unusedSimpArgs false
namespace Go.Proofs.YtkedidjjhhjdbaaGreatDoor.Pr
open Go.RowKit Go.Proofs.YtkedidjjhhjdbaaGreatDoorW.PrintWords Go.Proofs.YtkedidjjhhjdbaaGreatDoorW.PrintLast Go.Proofs.YtkedidjjhhjdbaaGreatDoorW.PrintMore
def idxF (w : ByteArray) : List ByteArray → Int → Int
  | [], _ => -1
  | x :: r, i => if w.toList = x.toList then i else idxF w r (i + 1)
theorem index_ev (l : List ByteArray) (w : ByteArray) (hl : l.length ≤ 1000) : ∀ n i : Nat, i + n = l.length → Ev (fun k => slices_Index_string_string.l0 k l w (l.length : Int) (i : Int)) (idxF w (l.drop i) (i : Int))
 | 0, i, hin => by
  rw [List.drop_of_length_le (show l.length ≤ i by omega)]
  exact Ev.succ (g := fun _ => some (-1)) (Ev.const rfl) (fun k => by rw [slices_Index_string_string.l0, if_neg (by omega)])
 | n + 1, i, hin => by
  have hi : i < l.length := by omega
  rw [List.drop_eq_getElem_cons hi, idxF]; by_cases h : w.toList = l[i].toList
  ·
   rw [if_pos h]
   exact Ev.succ (g := fun _ => some (i : Int)) (Ev.const rfl) (fun k => by rw [slices_Index_string_string.l0, if_pos (by omega), if_pos (by omega), if_pos (by omega), rdOf_at l i hi, if_pos h])
  rw [if_neg h]
  exact Ev.succ (index_ev l w hl n (i + 1) (by omega)) (fun k => by rw [slices_Index_string_string.l0, if_pos (by omega), if_pos (by omega), if_pos (by omega), rdOf_at l i hi, if_neg h, wrap_next i 2000 (by omega) (by omega)])
theorem kinds_ev (w : ByteArray) : Ev (fun k => slices_Index_string_string.f k kinds4 w) (idxF w kinds4 0) := index_ev kinds4 w (by decide) 4 0 rfl
theorem idx_kind (c : Int) (h0 : 0 ≤ c) (h3 : c ≤ 3) : idxF (kindB c) kinds4 0 = c := by
 have : c = 0 ∨ c = 1 ∨ c = 2 ∨ c = 3 := by omega
 rcases this with rfl | rfl | rfl | rfl <;> simp [idxF, kinds4, kindB, Lib.toList_data]
theorem cut_le (l : List UInt8) : (Lib.cut l [32]).1.length ≤ l.length := by
 unfold Lib.cut
 split
 rotate_left
 · exact Nat.le_refl _
 rw [List.length_take]; omega
theorem nextW_le (s : ByteArray) : (nextW s).size ≤ s.size := by
 unfold nextW
 rw [size_mk, size_data s]; exact cut_le _
theorem words_total : ∀ l : List ByteArray, (∀ x ∈ l, x.size ≤ 70000) → ∃ b, wordsF l = some b
 | [], _ => ⟨true, rfl⟩
 | x :: r, h => by
  obtain ⟨b, hb⟩ := words_total r (fun z hz => h z (List.mem_cons_of_mem _ hz))
  have hx := h x (List.mem_cons_self ..)
  have hw := word_B x.data.toList (by rw [size_data] at hx; omega)
  rw [← B_eta] at hw
  cases hc : wordB x.data.toList with
  | true => exact ⟨b, by rw [wordsF, hw, hc, Option.bind_some, if_pos rfl, hb]⟩
  | false => exact ⟨false, by rw [wordsF, hw, hc, Option.bind_some, if_neg (by simp)]⟩
theorem words_ok : ∀ l : List ByteArray, (∀ x ∈ l, keyB x = true) → wordsF l = some true
 | [], _ => rfl
 | x :: r, h => by
  have ih := words_ok r (fun z hz => h z (List.mem_cons_of_mem _ hz))
  have hx := h x (List.mem_cons_self ..); have hk := key_size hx
  have hw := word_B x.data.toList (by rw [size_data] at hk; omega)
  rw [← B_eta, word_key hx] at hw; rw [wordsF, hw, Option.bind_some, if_pos rfl, ih]
theorem fin_total (s : ByteArray) (d : Bool) (kd : Int) (tn : ByteArray) (sc : List S33) (hd : List ByteArray) (r : LBd tn sc hd) : ∃ v, Ev (fun k => policy_rule.fin k s d kd tn sc hd) v := by
 obtain ⟨b, hb⟩ := words_total hd r.hk
 unfold policy_rule.fin
 rw [hb]; simp only [Option.bind_some]; by_cases h1 : b = true; rotate_left
 · simp only [if_neg h1]; exact ⟨_, Ev.const rfl⟩
 simp only [if_pos h1]; by_cases h2 : kd ≥ 0; rotate_left
 · simp only [if_neg h2]; exact ⟨_, Ev.const rfl⟩
 simp only [if_pos h2]; by_cases h3 : tn.toList = ([] : List UInt8)
 · simp only [if_pos h3]; exact ⟨_, Ev.const rfl⟩
 simp only [if_neg h3]
 exact ⟨_, Ev.bind (line_evG r) (Ev.const rfl)⟩
theorem split_pieces (sep : ByteArray) : ∀ (k : Nat) (s : ByteArray), ∀ x ∈ Lib.splitB sep 0 k s, x.size ≤ s.size
 | 0, s, x, hx => by
  rw [Lib.splitB_zero] at hx; rw [List.mem_singleton.1 hx]; exact Nat.le_refl _
 | k + 1, s, x, hx => by
  rw [Lib.splitB] at hx
  split at hx
  · rw [List.mem_singleton.1 hx]; exact Nat.le_refl _
  rcases List.mem_cons.1 hx with rfl | hx
  · rw [ByteArray.size_extract]; omega
  have := split_pieces sep k _ x hx
  rw [ByteArray.size_extract] at this; omega
theorem split_total (s sep : ByteArray) (hs : s.size ≤ 70000) (h1 : 1 ≤ sep.size) : ∃ l, strings_Split.f s sep = some l ∧ l.length ≤ 70001 ∧ ∀ x ∈ l, x.size ≤ s.size := by
 unfold strings_Split.f
 rw [if_pos ⟨by omega, h1⟩]
 refine ⟨_, rfl, ?_, split_pieces sep _ s⟩
 have := Lib.splitB_length_le sep 0 (Lib.countB s sep) s
 have h2 := Lib.countB_le sep h1 s.size s (Nat.le_refl _); omega
theorem hide_total (s : ByteArray) (d : Bool) (kd : Int) (tn : ByteArray) (sc : List S33) (l : List UInt8) (hl : l.length ≤ 70000) (ht : tn.size ≤ 70000) (hs : sc.length ≤ 80000) (hm : ∀ m ∈ sc, m.f1.size ≤ 70000 ∧ m.f2.size ≤ 70000) : ∃ v, Ev (fun k => policy_rule.hide k s d kd tn sc (B l)) v := by
 have hc := cutPrefix_B l [104, 105, 100, 101, 32] (by omega)
 unfold policy_rule.hide
 show ∃ v, Ev (fun k => (strings_CutPrefix.f (B l) (B [104, 105, 100, 101, 32])).bind _) v
 rw [hc]; simp only [Option.bind_some]; by_cases hp : ([104, 105, 100, 101, 32] : List UInt8).isPrefixOf l = true; rotate_left
 ·
  simp only [if_neg hp, Bool.false_eq_true, if_false]
  exact fin_total s d kd tn sc [] ⟨ht, hs, hm, by simp, fun x hx => by cases hx⟩
 simp only [if_pos hp, if_true]
 obtain ⟨pl, hpl, h1, h2⟩ := split_total (B (l.drop ([104, 105, 100, 101, 32] : List UInt8).length)) (⟨#[44, 32]⟩ : ByteArray) (by rw [B_size, List.length_drop]; omega) (by decide)
 rw [hpl]; simp only [Option.bind_some]; rw [B_size, List.length_drop] at h2
 exact fin_total s d kd tn sc pl ⟨ht, hs, hm, by omega, fun x hx => by have := h2 x hx; omega⟩
theorem Ev.bind' {α β : Type} {f : Nat → Option α} {g : Nat → α → Option β} {v : α} (h : Ev f v) (h' : ∃ r, Ev (fun k => g k v) r) : ∃ r, Ev (fun k => (f k).bind (g k)) r := by
 obtain ⟨r, hr⟩ := h'
 exact ⟨r, Ev.bind h hr⟩
theorem wher_total (s : ByteArray) (d : Bool) (kd : Int) (tn : ByteArray) (l : List UInt8) (hl : l.length ≤ 65536) (ht : tn.size ≤ 70000) : ∃ v, Ev (fun k => policy_rule.wher k s d kd tn (B l)) v := by
 have hc := cutPrefix_B l [119, 104, 101, 114, 101, 32] (by omega)
 unfold policy_rule.wher
 show ∃ v, Ev (fun k => (strings_CutPrefix.f (B l) (B [119, 104, 101, 114, 101, 32])).bind _) v
 rw [hc]; simp only [Option.bind_some]; by_cases hp : ([119, 104, 101, 114, 101, 32] : List UInt8).isPrefixOf l = true; rotate_left
 ·
  simp only [if_neg hp, Bool.false_eq_true, if_false]
  exact hide_total s d kd tn [] l (by omega) ht (by simp) (fun m h => by cases h)
 simp only [if_pos hp, if_true]
 have hdl : (l.drop ([119, 104, 101, 114, 101, 32] : List UInt8).length).length ≤ 65536 := by rw [List.length_drop]; omega
 generalize l.drop ([119, 104, 101, 114, 101, 32] : List UInt8).length = q at hdl ⊢
 refine Ev.bind' (braces_ev q (by omega)) ?_
 cases hb : bracesL false q with
 | none =>
  simp only [brI, if_pos (show (-1 : Int) < 0 by omega)]
  exact ⟨_, Ev.const rfl⟩
 | some n =>
  have hn := bracesL_len q false n hb
  simp only [brI, if_neg (show ¬ (((0 + n : Nat) : Int) < 0) by omega), if_pos (show ((0 + n : Nat) : Int) ≤ ((B q).size : Int) by rw [B_size]; omega), Int.toNat_natCast, B_drop, B_take]
  have ht1 := trimPrefix_B (q.drop (0 + n)) [32] (by rw [List.length_drop]; omega)
  show ∃ v, Ev (fun k => (strings_TrimPrefix.f (B (q.drop (0 + n))) (B [32])).bind _) v
  rw [ht1]; simp only [Option.bind_some]
  have ht2 := trimPrefix_B (q.take (0 + n)) [123] (by rw [List.length_take]; omega)
  unfold policy_scope.f
  show ∃ v, Ev (fun k => ((strings_TrimPrefix.f (B (q.take (0 + n))) (B [123])).bind _).bind _) v
  rw [ht2]; simp only [Option.bind_some]
  have hsl : (if ([123] : List UInt8).isPrefixOf (q.take (0 + n)) = true then (q.take (0 + n)).drop ([123] : List UInt8).length else q.take (0 + n)).length ≤ 65536 := by
   split
   rotate_left
   · rw [List.length_take]; omega
   rw [List.length_drop, List.length_take]; omega
  generalize (if ([123] : List UInt8).isPrefixOf (q.take (0 + n)) = true then (q.take (0 + n)).drop ([123] : List UInt8).length else q.take (0 + n)) = sl at hsl ⊢
  obtain ⟨r, hr, h1, h2⟩ := scope_total sl.length sl (Nat.le_refl _) (by omega) [] (by simp only [List.length_nil]; omega) (fun m h => by cases h)
  refine Ev.bind' hr ?_
  cases hrr : r.2 with
  | true =>
   simp only [if_true]; rw [List.length_nil] at h1
   have hrl : (if ([32] : List UInt8).isPrefixOf (q.drop (0 + n)) = true then (q.drop (0 + n)).drop ([32] : List UInt8).length else q.drop (0 + n)).length ≤ 70000 := by
    split
    rotate_left
    · rw [List.length_drop]; omega
    rw [List.length_drop, List.length_drop]; omega
   exact hide_total s d kd tn r.1 _ hrl ht (by omega) h2
  | false =>
   simp only [Bool.false_eq_true, if_false]
   exact ⟨_, Ev.const rfl⟩
theorem rule_total (s : ByteArray) (hs : s.size ≤ 65536) : ∃ v, Ev (fun k => policy_rule.f k s) v := by
 unfold policy_rule.f
 simp only [if_pos (show s.size < 4294967281 by omega)]
 refine Ev.bind' (kinds_ev _) ?_
 have h1 := restW_le s; have h2 := restW_le (restW s); have h3 := restW_le (restW (restW s)); have h4 := restW_le (restW (restW (restW s))); have h5 := nextW_le (restW (restW (restW s))); have e := B_eta (restW (restW (restW (restW s)))); rw [e]
 exact wher_total s _ _ _ _ (by rw [← size_data]; omega) (by omega)
section
variable {d : Bool} {kd : Int} {tn : ByteArray} {sc : List S33} {h : List ByteArray}
theorem chN_plain (b : UInt8) (h : chN (b.toNat : Int) = true) : b ≠ 32 ∧ b ≠ 10 := by
 have hb := b.toNat_lt
 have key : ∀ n : Fin 256, chN ((n.1 : Nat) : Int) = true → UInt8.ofNat n.1 ≠ 32 ∧ UInt8.ofNat n.1 ≠ 10 := by decide +kernel
 have := key ⟨b.toNat, hb⟩ h
 rwa [show UInt8.ofNat b.toNat = b by simp] at this
theorem to_plain (r : ROk d kd tn sc h) : (∀ b ∈ tn.data.toList, b ≠ 32 ∧ b ≠ 10) ∧ tn.data.toList ≠ [] := by
 rcases r.tto with e | e
 ·
  rw [Lib.toList_data] at e; rw [e]
  exact ⟨by decide, by simp⟩
 unfold nameB at e
 simp only [Bool.and_eq_true, decide_eq_true_eq] at e
 refine ⟨fun b hb => chN_plain b (List.all_eq_true.1 e.2 b hb), fun h0 => ?_⟩
 have := e.1.1.1
 rw [size_data, h0] at this
 simp at this
theorem kind_plain (c : Int) : ∀ b ∈ (kindB c).data.toList, b ≠ 32 ∧ b ≠ 10 := by
 unfold kindB
 split
 · decide
 split
 · decide
 split
 · decide
 split <;> decide
def tailL (sc : List S33) (h : List ByteArray) : List UInt8 := (whereL sc ++ hideL h).drop 1
theorem tail_cut (r : ROk d kd tn sc h) : nextW (B (tn.data.toList ++ (whereL sc ++ hideL h))) = tn ∧ restW (B (tn.data.toList ++ (whereL sc ++ hideL h))) = B (tailL sc h) := by
 have hp := to_plain r
 have hn : 32 ∉ tn.data.toList := fun e => (hp.1 32 e).1 rfl
 by_cases he : whereL sc ++ hideL h = []
 ·
  unfold tailL
  rw [he, List.append_nil]
  exact ⟨(next_no _ hn).trans (B_eta tn).symm, rest_no _ hn⟩
 obtain ⟨t, ht⟩ : ∃ t, whereL sc ++ hideL h = 32 :: t := by
  unfold whereL hideL at he ⊢
  by_cases h1 : sc = []; rotate_left
  · rw [if_neg h1]; exact ⟨_, rfl⟩
  rw [if_pos h1, List.nil_append] at he ⊢
  by_cases h2 : h = []; rotate_left
  · rw [if_neg h2]; exact ⟨_, rfl⟩
  rw [if_pos h2] at he; exact absurd rfl he
 unfold tailL
 rw [ht]
 exact ⟨(next_at _ t hn).trans (B_eta tn).symm, rest_at _ t hn⟩
theorem line_words (r : ROk d kd tn sc h) : nextW (B (lineL d kd tn sc h)) = (if d = true then B [100, 101, 110, 121] else B [97, 108, 108, 111, 119]) ∧ nextW (restW (B (lineL d kd tn sc h))) = kindB kd ∧
  nextW (restW (restW (restW (B (lineL d kd tn sc h))))) = tn ∧ restW (restW (restW (restW (B (lineL d kd tn sc h))))) = B (tailL sc h) := by
 have hk : 32 ∉ (kindB kd).data.toList := fun e => (kind_plain kd 32 e).1 rfl
 have h1 : nextW (B (lineL d kd tn sc h)) = (if d = true then B [100, 101, 110, 121] else B [97, 108, 108, 111, 119]) ∧ restW (B (lineL d kd tn sc h)) = B ((kindB kd).data.toList ++ ([32, 116, 111, 32] ++ (tn.data.toList ++ (whereL sc ++ hideL h)))) := by
  unfold lineL headL
  by_cases hd : d = true
  ·
   rw [if_pos hd, if_pos hd]
   exact ⟨next_at [100, 101, 110, 121] _ (by decide), rest_at [100, 101, 110, 121] _ (by decide)⟩
  rw [if_neg hd, if_neg hd]
  exact ⟨next_at [97, 108, 108, 111, 119] _ (by decide), rest_at [97, 108, 108, 111, 119] _ (by decide)⟩
 have h2n := next_at (kindB kd).data.toList ([116, 111, 32] ++ (tn.data.toList ++ (whereL sc ++ hideL h))) hk; have h2r := rest_at (kindB kd).data.toList ([116, 111, 32] ++ (tn.data.toList ++ (whereL sc ++ hideL h))) hk; have h3r := rest_at [116, 111] (tn.data.toList ++ (whereL sc ++ hideL h)) (by decide); have ht := tail_cut r
 refine ⟨h1.1, ?_, ?_, ?_⟩
 · rw [h1.2]; exact h2n.trans (B_eta _).symm
 ·
  rw [h1.2]
  have : restW (B ((kindB kd).data.toList ++ ([32, 116, 111, 32] ++ (tn.data.toList ++ (whereL sc ++ hideL h))))) = B ([116, 111] ++ (32 :: (tn.data.toList ++ (whereL sc ++ hideL h)))) := h2r
  rw [this, h3r]; exact ht.1
 rw [h1.2]
 have : restW (B ((kindB kd).data.toList ++ ([32, 116, 111, 32] ++ (tn.data.toList ++ (whereL sc ++ hideL h))))) = B ([116, 111] ++ (32 :: (tn.data.toList ++ (whereL sc ++ hideL h)))) := h2r
 rw [this, h3r]; exact ht.2
theorem fin_back (r : ROk d kd tn sc h) : Ev (fun k => policy_rule.fin k (B (lineL d kd tn sc h)) d kd tn sc h) (d, kd, tn, sc, h, true) := by
 have hp := to_plain r
 unfold policy_rule.fin
 rw [words_ok h r.hk]
 simp only [Option.bind_some, if_true, if_pos (show kd ≥ 0 from r.k0), if_neg (show ¬ tn.toList = ([] : List UInt8) by rw [Lib.toList_data]; exact hp.2)]
 refine Ev.bind (line_ev r) (Ev.const ?_)
 have : ((⟨(lineL d kd tn sc h).toArray⟩ : ByteArray).toList == (B (lineL d kd tn sc h)).toList) = true := by
  rw [beq_iff_eq]; rfl
 rw [this]
theorem hide_back (r : ROk d kd tn sc h) (l : List UInt8) (hl : l = (hideL h).drop 1) : Ev (fun k => policy_rule.hide k (B (lineL d kd tn sc h)) d kd tn sc (B l)) (d, kd, tn, sc, h, true) := by
 subst hl; have hc2 := com_hide r
 have hc := cutPrefix_B ((hideL h).drop 1) [104, 105, 100, 101, 32] (by unfold hideL; split <;> simp <;> omega)
 unfold policy_rule.hide
 show Ev (fun k => (strings_CutPrefix.f (B ((hideL h).drop 1)) (B [104, 105, 100, 101, 32])).bind _) _
 rw [hc]; simp only [Option.bind_some]; by_cases hn : h = []
 ·
  have e : (hideL h).drop 1 = [] := by unfold hideL; rw [if_pos hn]; rfl
  rw [e]
  have hp : ([104, 105, 100, 101, 32] : List UInt8).isPrefixOf [] = false := rfl
  simp only [hp, Bool.false_eq_true, if_false]
  have := fin_back r
  rw [hn] at this ⊢
  exact this
 have e : (hideL h).drop 1 = [104, 105, 100, 101, 32] ++ comL (h.map (·.data.toList)) := by unfold hideL; rw [if_neg hn]; rfl
 rw [e]; simp only [pre_app, if_true, List.drop_left]
 have hs := split_com h hn (fun x hx hb => (tail_plain 44 (key_chars (r.hk x hx) 44 hb)).2.2.2.2.1 rfl) (by omega)
 rw [hs]; simp only [Option.bind_some]; exact fin_back r
theorem wher_back (r : ROk d kd tn sc h) : Ev (fun k => policy_rule.wher k (B (lineL d kd tn sc h)) d kd tn (B (tailL sc h))) (d, kd, tn, sc, h, true) := by
 have hm := com_mat sc r.s8 r.sm; have hh := com_hide r
 have hwl : (whereL sc).length ≤ 5000 := by
  unfold whereL
  split
  · simp
  unfold matchL; simp only [List.length_cons, List.length_append, List.length_nil]; omega
 have hhl : (hideL h).length ≤ 2000 := by
  unfold hideL
  split
  · simp
  simp only [List.length_cons, List.length_append, List.length_nil]; omega
 have hc := cutPrefix_B (tailL sc h) [119, 104, 101, 114, 101, 32] (by unfold tailL; rw [List.length_drop, List.length_append]; omega)
 unfold policy_rule.wher
 show Ev (fun k => (strings_CutPrefix.f (B (tailL sc h)) (B [119, 104, 101, 114, 101, 32])).bind _) _
 rw [hc]; simp only [Option.bind_some]; by_cases hn : sc = []
 ·
  have e : tailL sc h = (hideL h).drop 1 := by unfold tailL whereL; rw [if_pos hn, List.nil_append]
  have hp : ([119, 104, 101, 114, 101, 32] : List UInt8).isPrefixOf (tailL sc h) = false := by
   rw [e]
   unfold hideL
   split
   · rfl
   rfl
  simp only [hp, Bool.false_eq_true, if_false]
  have := hide_back r (tailL sc h) e
  rw [hn] at this ⊢
  exact this
 have e : tailL sc h = [119, 104, 101, 114, 101, 32] ++ (matchL sc ++ hideL h) := by
  unfold tailL whereL
  rw [if_neg hn]; rfl
 rw [e]; simp only [pre_app, if_true, List.drop_left]
 have hlen : (matchL sc ++ hideL h).length ≤ 70000 := by
  have : (matchL sc).length ≤ 5000 := by unfold matchL; simp only [List.length_cons, List.length_append, List.length_nil]; omega
  rw [List.length_append]; omega
 refine Ev.bind (braces_ev _ hlen) ?_
 rw [br_match sc r.sm]
 simp only [brI, Nat.zero_add, if_neg (show ¬ (((matchL sc).length : Int) < 0) by omega), if_pos (show ((matchL sc).length : Int) ≤ ((B (matchL sc ++ hideL h)).size : Int) by rw [B_size, List.length_append]; omega), Int.toNat_natCast, B_drop, B_take, List.take_left, List.drop_left]
 have ht1 := trimPrefix_B (hideL h) [32] (by omega)
 have ht2 : (if ([32] : List UInt8).isPrefixOf (hideL h) = true then (hideL h).drop ([32] : List UInt8).length else hideL h) = (hideL h).drop 1 := by
  unfold hideL
  split
  · rfl
  rfl
 rw [ht2] at ht1
 show Ev (fun k => (strings_TrimPrefix.f (B (hideL h)) (B [32])).bind _) _
 rw [ht1]; simp only [Option.bind_some]
 refine Ev.bind (scope_match sc hn r.s8 r.sm) ?_
 simp only [if_true]; exact hide_back r _ rfl
theorem rule_back (r : ROk d kd tn sc h) : Ev (fun k => policy_rule.f k (B (lineL d kd tn sc h))) (d, kd, tn, sc, h, true) := by
 have hl := line_len r
 obtain ⟨w1, w2, w3, w4⟩ := line_words r
 unfold policy_rule.f
 simp only [if_pos (show (B (lineL d kd tn sc h)).size < 4294967281 by rw [B_size]; omega), w1, w2, w3, w4]
 refine Ev.bind (kinds_ev _) ?_
 rw [idx_kind kd r.k0 r.k3]
 have hd : isDeny (if d = true then B [100, 101, 110, 121] else B [97, 108, 108, 111, 119]) = d := by
  unfold isDeny
  cases d with
  | true => rw [if_pos rfl, B_toList]; rfl
  | false => rw [if_neg (by simp), B_toList]; rfl
 rw [hd]; exact wher_back r
end
end Go.Proofs.YtkedidjjhhjdbaaGreatDoor.Pr
end
