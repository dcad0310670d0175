import Derived.Test.YtefeibndnghejaaGreatDoorJp24
import Derived.Test.YtefeibndnghejaaGreatDoorJp5
import Derived.Test.YtefeibndnghejaaGreatDoorJp20
import Derived.OpenShut
import Derived.DataShut
section
set_option linter.unusedVariables false
set_option linter.unusedSimpArgs false
namespace Go.Proofs.YtefeibndnghejaaGreatDoor.Pr
open Go.RowKit Go.Proofs.YtefeibndnghejaaGreatDoorW.PrintWords Go.Proofs.YtefeibndnghejaaGreatDoorW.PrintLast Go.Proofs.YtefeibndnghejaaGreatDoorW.PrintMore
def eqB (x y : S85) : Bool := (x.f0.data.toList == y.f0.data.toList) && (x.f1.data.toList == y.f1.data.toList)
def sameL : List S85 → List S85 → Bool
  | [], [] => true
  | x :: l, y :: m => eqB x y && sameL l m
  | _, _ => false
theorem sameL_refl : ∀ l, sameL l l = true
 | [] => rfl
 | x :: l => by rw [sameL, sameL_refl l, eqB]; simp
theorem sameL_len : ∀ {a b : List S85}, a.length ≠ b.length → sameL a b = false
 | [], [], h => absurd rfl h
 | [], _ :: _, _ => rfl
 | _ :: _, [], _ => rfl
 | _ :: a, _ :: b, h => by rw [sameL, sameL_len (a := a) (b := b) (fun e => h (by simp [e]))]; simp
theorem same_l0 (a b : List S85) (ha : a.length < 4398046511104) (hab : a.length = b.length) : ∀ (n i : Nat), i + n = a.length → ∀ k, n < k → belfryref04_Same.l0 k a b (i : Int) = some (sameL (a.drop i) (b.drop i))
 | _, _, _, 0, hk => absurd hk (by omega)
 | 0, i, hn, k + 1, hk => by
  rw [belfryref04_Same.l0, if_neg (by omega), List.drop_of_length_le (by omega), List.drop_of_length_le (by omega)]; rfl
 | n + 1, i, hn, k + 1, hk => by
  have ih := same_l0 a b ha hab n (i + 1) (by omega) k (by omega)
  rw [belfryref04_Same.l0, if_pos (by omega), if_pos (by omega), if_pos (by omega), rd_at a i (by omega), rd_at b i (by omega), wrap_small (n := (i : Int) + 1) (by omega) (by omega), drop_cons a i (by omega), drop_cons b i (by omega), sameL, eqB]
  simp only [Lib.toList_data]
  rw [show (i : Int) + 1 = ((i + 1 : Nat) : Int) by omega, ih]
  cases (a[i]'(by omega)).f0.data.toList == (b[i]'(by omega)).f0.data.toList <;> cases (a[i]'(by omega)).f1.data.toList == (b[i]'(by omega)).f1.data.toList <;> simp
theorem same_eq (a b : List S85) (ha : a.length < 4398046511104) : Ev (fun k => belfryref04_Same.f k a b) (sameL a b) := by
 refine ⟨a.length + 1, fun k hk => ?_⟩
 dsimp only
 unfold belfryref04_Same.f
 by_cases h : (a.length : Int) = (b.length : Int)
 ·
  have := same_l0 a b ha (by omega) a.length 0 (by omega) k (by omega)
  rw [show ((0 : Nat) : Int) = 0 from rfl] at this
  rw [if_pos h, this]; rfl
 ·
  rw [if_neg h, sameL_len (by omega)]
theorem cmpAttr_zero (x y : S85) : cmpAttr x y = 0 ↔ eqB x y = true := by
 unfold cmpAttr eqB
 by_cases h : x.f0.data.toList = y.f0.data.toList
 ·
  rw [if_pos h, beq_iff_eq.2 h, Bool.true_and, beq_iff_eq]
  exact ⟨fun e => cmp_eq0 e, fun e => by rw [e]; exact cmp_refl _⟩
 ·
  rw [if_neg h, beq_eq_false_iff_ne.2 h, Bool.false_and]
  exact ⟨fun e => absurd (cmp_eq0 e) h, fun e => by cases e⟩
theorem cmp_l0 (a b : List S85) (ha : a.length < 4398046511104) : ∀ (n i : Nat), i + n = a.length → i ≤ b.length → ∃ c : Int, (c = 0 ↔ sameL (a.drop i) (b.drop i) = true) ∧ ∀ k, n < k → api_Attr_101.l0 k a b a (a.length : Int) (i : Int) = some c
 | 0, i, hn, hb => by
  rw [List.drop_of_length_le (show a.length ≤ i by omega)]
  refine ⟨if (a.length : Int) < (b.length : Int) then -1 else 0, ?_, fun k hk => ?_⟩
  ·
   by_cases h : (a.length : Int) < (b.length : Int)
   ·
    rw [if_pos h, drop_cons b i (by omega)]; simp [sameL]
   ·
    rw [if_neg h, List.drop_of_length_le (show b.length ≤ i by omega)]; simp [sameL]
  ·
   obtain ⟨k, rfl⟩ : ∃ j, k = j + 1 := ⟨k - 1, by omega⟩
   rw [api_Attr_101.l0, if_neg (by omega)]
   split <;> rfl
 | n + 1, i, hn, hb => by
  by_cases hib : i < b.length
  ·
   obtain ⟨c, hc, hk'⟩ := cmp_l0 a b ha n (i + 1) (by omega) (by omega)
   by_cases ht : cmpAttr (a[i]'(by omega)) (b[i]'hib) = 0
   ·
    refine ⟨c, ?_, fun k hk => ?_⟩
    ·
     rw [drop_cons a i (by omega), drop_cons b i hib, sameL, (cmpAttr_zero _ _).1 ht, Bool.true_and]; exact hc
    ·
     obtain ⟨k, rfl⟩ : ∃ j, k = j + 1 := ⟨k - 1, by omega⟩
     rw [api_Attr_101.l0, if_pos (by omega), if_pos (by omega), if_pos (by omega), if_neg (by omega), if_pos (by omega), rd_at a i (by omega), rd_at b i hib, attr_Cmp_1.f, Option.bind_some, if_pos ht, wrap_small (n := (i : Int) + 1) (by omega) (by omega)]
     exact hk' k (by omega)
   ·
    refine ⟨cmpAttr (a[i]'(by omega)) (b[i]'hib), ?_, fun k hk => ?_⟩
    ·
     rw [drop_cons a i (by omega), drop_cons b i hib, sameL, Bool.and_eq_true]
     exact ⟨fun e => absurd e ht, fun e => (cmpAttr_zero _ _).2 e.1⟩
    ·
     obtain ⟨k, rfl⟩ : ∃ j, k = j + 1 := ⟨k - 1, by omega⟩
     rw [api_Attr_101.l0, if_pos (by omega), if_pos (by omega), if_pos (by omega), if_neg (by omega), if_pos (by omega), rd_at a i (by omega), rd_at b i hib, attr_Cmp_1.f, Option.bind_some, if_neg ht]
  ·
   refine ⟨1, ?_, fun k hk => ?_⟩
   ·
    rw [drop_cons a i (by omega), List.drop_of_length_le (show b.length ≤ i by omega)]; simp [sameL]
   ·
    obtain ⟨k, rfl⟩ : ∃ j, k = j + 1 := ⟨k - 1, by omega⟩
    rw [api_Attr_101.l0, if_pos (by omega), if_pos (by omega), if_pos (by omega), if_pos (by omega)]
theorem cmp_ev (a b : List S85) (ha : a.length < 4398046511104) : ∃ c : Int, (c = 0 ↔ sameL a b = true) ∧ Ev (fun k => attr_Cmp.f k a b) c := by
 obtain ⟨c, h1, h2⟩ := cmp_l0 a b ha a.length 0 (by omega) (Nat.zero_le _)
 refine ⟨c, by simpa using h1, a.length + 1, fun k hk => ?_⟩
 dsimp only
 rw [attr_Cmp.f, api_Attr_101.f]
 have := h2 k (by omega)
 rw [show ((0 : Nat) : Int) = 0 from rfl] at this
 rw [this]; rfl
theorem sameL_symm : ∀ a b, sameL a b = sameL b a
 | [], [] => rfl
 | [], _ :: _ => rfl
 | _ :: _, [] => rfl
 | x :: a, y :: b => by
  rw [sameL, sameL, sameL_symm a b, eqB, eqB, BEq.comm (a := x.f0.data.toList), BEq.comm (a := x.f1.data.toList)]
def rightOf (l : List S85) : Int := if (setOf l).2 = 0 then (if sameL l (setOf l).1 = true then 0 else 3) else (setOf l).2
theorem right_ev (l : List S85) (hl : l.length < 4398046511104) : Ev (fun k => attr_Right.f k l) (rightOf l) := by
 unfold attr_Right.f rightOf
 refine Ev.bind (make_eq l) ?_
 by_cases h : (setOf l).2 = 0
 ·
  obtain ⟨c, hc, hE⟩ := cmp_ev l (setOf l).1 hl
  simp only [if_pos h]
  refine Ev.bind hE (Ev.const ?_)
  by_cases h0 : c = 0
  ·
   rw [if_pos h0, if_pos (hc.1 h0), h]
  ·
   rw [if_neg h0, if_neg (fun e => h0 (hc.2 e))]
 ·
  simp only [if_neg h]
  exact Ev.const rfl
theorem setOf_len (l : List S85) : (setOf l).1.length ≤ 16 := by
 unfold setOf
 split
 ·
  simp
 ·
  split
  ·
   simp
  ·
   split
   ·
    simp
   ·
    rw [(sorted85_perm l).2.1]; omega
theorem ref_right_ev (l : List S85) : Ev (fun k => belfryref04_Right.f k l) (rightOf l) := by
 unfold belfryref04_Right.f rightOf
 refine Ev.bind (ref_make_eq l) ?_
 have hlen := setOf_len l
 by_cases h : (setOf l).2 = 0
 ·
  simp only [if_pos h]
  refine Ev.bind (same_eq (setOf l).1 l (by omega)) (Ev.const ?_)
  rw [sameL_symm]
  by_cases h0 : sameL l (setOf l).1 = true
  ·
   rw [if_pos h0, if_pos h0, h]
  ·
   rw [if_neg h0, if_neg h0]
 ·
  simp only [if_neg h]
  exact Ev.const rfl
end Go.Proofs.YtefeibndnghejaaGreatDoor.Pr
end
section
set_option linter.unusedVariables false
set_option linter.unusedSimpArgs false
namespace Go.Proofs.YtefeibndnghejaaGreatDoor.Pr
open Go.RowKit Go.Proofs.YtefeibndnghejaaGreatDoorW.PrintWords Go.Proofs.YtefeibndnghejaaGreatDoorW.PrintLast Go.Proofs.YtefeibndnghejaaGreatDoorW.PrintMore
theorem bytes_ext {a b : ByteArray} (h : a.data.toList = b.data.toList) : a = b := by
 cases a; cases b; simp at h; simp [h]
theorem eqB_eq {x y : S85} (h : eqB x y = true) : x = y := by
 unfold eqB at h
 rw [Bool.and_eq_true, beq_iff_eq, beq_iff_eq] at h
 cases x; cases y
 simp only at h
 rw [bytes_ext h.1, bytes_ext h.2]
theorem sameL_eq : ∀ {a b : List S85}, sameL a b = true → a = b
 | [], [], _ => rfl
 | [], _ :: _, h => by simp [sameL] at h
 | _ :: _, [], h => by simp [sameL] at h
 | x :: a, y :: b, h => by
  rw [sameL, Bool.and_eq_true] at h
  rw [eqB_eq h.1, sameL_eq h.2]
def okS (x : S85) : Bool := keyB x.f0 && valB x.f1
theorem fault_zero : ∀ l : List S85, faultOf l = 0 ↔ ∀ x ∈ l, okS x = true
 | [] => by simp [faultOf]
 | x :: l => by
  rw [faultOf]
  have ih := fault_zero l
  cases h1 : keyB x.f0 <;> cases h2 : valB x.f1 <;> simp [okS, h1, h2]
  simpa [okS] using ih
theorem setOf_ok {l : List S85} (h : (setOf l).2 = 0) : l.length ≤ 16 ∧ faultOf l = 0 ∧ dupAdj (sorted85 l) = false ∧ (setOf l).1 = sorted85 l := by
 unfold setOf at h ⊢
 by_cases h1 : (l.length : Int) > 16
 ·
  rw [if_pos h1] at h; cases h
 ·
  rw [if_neg h1] at h ⊢
  by_cases h2 : faultOf l ≠ 0
  ·
   rw [if_pos h2] at h; exact absurd h h2
  ·
   rw [if_neg h2] at h ⊢
   cases h3 : dupAdj (sorted85 l) with
   | true => rw [h3, if_pos rfl] at h; cases h
   | false => exact ⟨by omega, Decidable.not_not.1 h2, rfl, by simp⟩
theorem data_app (a b : ByteArray) : (a ++ b).data.toList = a.data.toList ++ b.data.toList := by simp [ByteArray.data_append]
theorem esc_cases (b : UInt8) : (b = 10 ∧ esc b = [92, 110]) ∨ (b = 92 ∧ esc b = [92, 92]) ∨ (b = 34 ∧ esc b = [92, 34]) ∨ (b ≠ 10 ∧ b ≠ 92 ∧ b ≠ 34 ∧ esc b = [b]) := by
 unfold esc
 by_cases h1 : b = 10
 ·
  exact .inl ⟨h1, by rw [if_pos h1]⟩
 ·
  by_cases h2 : b = 92
  ·
   exact .inr (.inl ⟨h2, by rw [if_neg h1, if_pos h2]⟩)
  ·
   by_cases h3 : b = 34
   ·
    exact .inr (.inr (.inl ⟨h3, by rw [if_neg h1, if_neg h2, if_pos h3]⟩))
   ·
    exact .inr (.inr (.inr ⟨h1, h2, h3, by rw [if_neg h1, if_neg h2, if_neg h3]⟩))
theorem esc_inj {b c : UInt8} {t u : List UInt8} (h : esc b ++ t = esc c ++ u) : b = c ∧ t = u := by
 rcases esc_cases b with ⟨rfl, hb⟩ | ⟨rfl, hb⟩ | ⟨rfl, hb⟩ | ⟨b1, b2, b3, hb⟩ <;> rcases esc_cases c with ⟨rfl, hc⟩ | ⟨rfl, hc⟩ | ⟨rfl, hc⟩ | ⟨c1, c2, c3, hc⟩ <;> rw [hb] at h <;> try rw [hc] at h
 all_goals simp only [List.cons_append, List.nil_append, List.cons.injEq] at h
 ·
  exact ⟨rfl, h.2.2⟩
 ·
  exact absurd h.2.1 (by decide)
 ·
  exact absurd h.2.1 (by decide)
 ·
  exact absurd h.1.symm c2
 ·
  exact absurd h.2.1 (by decide)
 ·
  exact ⟨rfl, h.2.2⟩
 ·
  exact absurd h.2.1 (by decide)
 ·
  exact absurd h.1.symm c2
 ·
  exact absurd h.2.1 (by decide)
 ·
  exact absurd h.2.1 (by decide)
 ·
  exact ⟨rfl, h.2.2⟩
 ·
  exact absurd h.1.symm c2
 ·
  exact absurd h.1 b2
 ·
  exact absurd h.1 b2
 ·
  exact absurd h.1 b2
 ·
  exact ⟨h.1, h.2⟩
theorem esc_head {b : UInt8} {t u : List UInt8} : esc b ++ t ≠ 34 :: u := by
 rcases esc_cases b with ⟨rfl, hb⟩ | ⟨rfl, hb⟩ | ⟨rfl, hb⟩ | ⟨b1, b2, b3, hb⟩ <;> rw [hb] <;> intro h <;> simp only [List.cons_append, List.nil_append, List.cons.injEq] at h
 ·
  exact absurd h.1 (by decide)
 ·
  exact absurd h.1 (by decide)
 ·
  exact absurd h.1 (by decide)
 ·
  exact b3 h.1
theorem escL_cut : ∀ (s s' t t' : List UInt8), escL s ++ 34 :: t = escL s' ++ 34 :: t' → s = s' ∧ t = t'
 | [], [], t, t', h => by
  simp only [escL, List.flatMap_nil, List.nil_append, List.cons.injEq] at h
  exact ⟨rfl, h.2⟩
 | [], b :: s', t, t', h => by
  simp only [escL, List.flatMap_nil, List.nil_append, List.flatMap_cons, List.append_assoc] at h
  exact absurd h.symm esc_head
 | b :: s, [], t, t', h => by
  simp only [escL, List.flatMap_nil, List.nil_append, List.flatMap_cons, List.append_assoc] at h
  exact absurd h esc_head
 | b :: s, c :: s', t, t', h => by
  simp only [escL, List.flatMap_cons, List.append_assoc] at h
  obtain ⟨rfl, h'⟩ := esc_inj h
  obtain ⟨rfl, rfl⟩ := escL_cut s s' t t' h'
  exact ⟨rfl, rfl⟩
theorem key_cut : ∀ (k k' t t' : List UInt8), (∀ b ∈ k, b ≠ 61) → (∀ b ∈ k', b ≠ 61) → k ++ 61 :: t = k' ++ 61 :: t' → k = k' ∧ t = t'
 | [], [], t, t', _, _, h => by
  simp only [List.nil_append, List.cons.injEq] at h
  exact ⟨rfl, h.2⟩
 | [], b :: k', t, t', _, h', h => by
  simp only [List.nil_append, List.cons_append, List.cons.injEq] at h
  exact absurd h.1.symm (h' b (List.mem_cons_self ..))
 | b :: k, [], t, t', hk, _, h => by
  simp only [List.nil_append, List.cons_append, List.cons.injEq] at h
  exact absurd h.1 (hk b (List.mem_cons_self ..))
 | b :: k, c :: k', t, t', hk, hk', h => by
  simp only [List.cons_append, List.cons.injEq] at h
  obtain ⟨rfl, h⟩ := h
  obtain ⟨rfl, rfl⟩ := key_cut k k' t t' (fun x hx => hk x (List.mem_cons_of_mem _ hx)) (fun x hx => hk' x (List.mem_cons_of_mem _ hx)) h
  exact ⟨rfl, rfl⟩
theorem allT_mem (s : ByteArray) : ∀ (n i : Nat), i + n = s.size → allT s (i : Int) n = true → ∀ b ∈ s.data.toList.drop i, tailB (b.toNat : Int) = true
 | 0, i, hi, h, b, hb => by
  rw [List.drop_of_length_le (by rw [Array.length_toList]; show s.size ≤ i; omega)] at hb
  cases hb
 | n + 1, i, hi, h, b, hb => by
  rw [allT, Bool.and_eq_true] at h
  have hlt : i < s.data.toList.length := by rw [Array.length_toList]; show i < s.size; omega
  have h0 := bt_drop s i 0
  rw [List.drop_eq_getElem_cons hlt] at hb h0
  simp only [List.getD_cons_zero, Int.natCast_zero, Int.add_zero] at h0
  rcases List.mem_cons.1 hb with rfl | hb
  ·
   rw [h0] at h
   exact h.1
  ·
   exact allT_mem s n (i + 1) (by omega) (by rw [show ((i + 1 : Nat) : Int) = (i : Int) + 1 by omega]; exact h.2) b hb
theorem tail_ne {b : UInt8} (h : tailB (b.toNat : Int) = true) : b ≠ 61 := by
 rintro rfl
 exact absurd h (by decide)
theorem head_tail {c : Int} (h : headB c = true) : tailB c = true := by unfold tailB; rw [h]; rfl
theorem key_ne {s : ByteArray} (h : keyB s = true) : ∀ b ∈ s.data.toList, b ≠ 61 := by
 unfold keyB at h
 simp only [Bool.and_eq_true, decide_eq_true_eq] at h
 intro b hb
 have := allT_mem s s.size 0 (by omega) (by
  obtain ⟨n, hn⟩ : ∃ n, s.size = n + 1 := ⟨s.size - 1, by omega⟩
  rw [hn, allT, Bool.and_eq_true]
  refine ⟨head_tail h.1.2, ?_⟩
  have := h.2
  rw [hn] at this
  exact this) b (by simpa using hb)
 exact tail_ne this
abbrev sepL : List UInt8 := [44, 32]
abbrev itemL (x : S85) : List UInt8 := (item x).data.toList
theorem item_eq (x : S85) (t : List UInt8) : itemL x ++ t = keyL x ++ 61 :: 34 :: (escL x.f1.data.toList ++ 34 :: t) := by
 simp [itemL, item, data_app]
theorem item_cut {x y : S85} {t u : List UInt8} (hx : keyB x.f0 = true) (hy : keyB y.f0 = true) (h : itemL x ++ t = itemL y ++ u) : x = y ∧ t = u := by
 rw [item_eq, item_eq] at h
 obtain ⟨h1, h⟩ := key_cut _ _ _ _ (key_ne hx) (key_ne hy) h
 rw [List.cons.injEq] at h
 obtain ⟨h2, h3⟩ := escL_cut _ _ _ _ h.2
 refine ⟨?_, h3⟩
 cases x; cases y
 simp only at h1 h2
 rw [bytes_ext h1, bytes_ext h2]
theorem tail_inj : ∀ (l m : List S85), (∀ x ∈ l, keyB x.f0 = true) → (∀ x ∈ m, keyB x.f0 = true) → Lib.joinTail sepL (l.map itemL) = Lib.joinTail sepL (m.map itemL) → l = m
 | [], [], _, _, _ => rfl
 | [], y :: m, _, _, h => by simp [Lib.joinTail] at h
 | x :: l, [], _, _, h => by simp [Lib.joinTail] at h
 | x :: l, y :: m, hx, hy, h => by
  simp only [Lib.joinTail, List.map_cons, List.flatten_cons, List.append_assoc, List.cons_append, List.nil_append, List.cons.injEq, true_and] at h
  obtain ⟨rfl, h⟩ := item_cut (hx x (List.mem_cons_self ..)) (hy y (List.mem_cons_self ..)) h
  rw [tail_inj l m (fun z hz => hx z (List.mem_cons_of_mem _ hz)) (fun z hz => hy z (List.mem_cons_of_mem _ hz)) (by simpa [Lib.joinTail] using h)]
theorem joined_cons (x : S85) (l : List S85) : joined (x :: l) = itemL x ++ Lib.joinTail sepL (l.map itemL) := by
 unfold joined
 rw [List.map_cons, Lib.join_cons]
theorem joined_inj : ∀ (l m : List S85), (∀ x ∈ l, keyB x.f0 = true) → (∀ x ∈ m, keyB x.f0 = true) → joined l = joined m → l = m
 | [], [], _, _, _ => rfl
 | [], y :: m, _, _, h => by
  rw [joined_cons, item_eq] at h
  exact absurd h.symm (by simp [joined, Lib.join_nil])
 | x :: l, [], _, _, h => by
  rw [joined_cons, item_eq] at h
  exact absurd h (by simp [joined, Lib.join_nil])
 | x :: l, y :: m, hx, hy, h => by
  rw [joined_cons, joined_cons] at h
  obtain ⟨rfl, h'⟩ := item_cut (hx x (List.mem_cons_self ..)) (hy y (List.mem_cons_self ..)) h
  rw [tail_inj l m (fun z hz => hx z (List.mem_cons_of_mem _ hz)) (fun z hz => hy z (List.mem_cons_of_mem _ hz)) h']
theorem skey_eq (r : Rd) : (skeyB r).data.toList = 34 :: (escL r.x.nm.data.toList ++ 34 :: (123 :: (joined r.a ++ [125]))) := by
 simp [skeyB, quoteB, textB, data_app]
theorem skey_iff {r s : Rd} (hr : ∀ x ∈ r.a, keyB x.f0 = true) (hs : ∀ x ∈ s.a, keyB x.f0 = true) : (skeyB r).data.toList = (skeyB s).data.toList ↔ r.x.nm = s.x.nm ∧ r.a = s.a := by
 constructor
 ·
  intro h
  rw [skey_eq, skey_eq, List.cons.injEq] at h
  obtain ⟨h1, h2⟩ := escL_cut _ _ _ _ h.2
  rw [List.cons.injEq] at h2
  exact ⟨bytes_ext h1, joined_inj _ _ hr hs (List.append_cancel_right h2.2)⟩
 ·
  rintro ⟨h1, h2⟩
  rw [skey_eq, skey_eq, h1, h2]
theorem itemL_len {x : S85} (h : okS x = true) : (itemL x).length ≤ 579 := by
 have := item_eq x []
 rw [List.append_nil] at this
 rw [this]
 unfold okS keyB valB at h
 simp only [Bool.and_eq_true, decide_eq_true_eq] at h
 have h1 := escL_len x.f1.data.toList
 have h2 : specN x.f1.data.toList ≤ x.f1.data.toList.length := List.countP_le_length
 have h3 : x.f1.data.toList.length = x.f1.size := Array.length_toList
 have h4 : (keyL x).length = x.f0.size := Array.length_toList
 simp only [List.length_append, List.length_cons, List.length_nil]
 omega
theorem tail_len : ∀ l : List S85, (∀ x ∈ l, okS x = true) → (Lib.joinTail sepL (l.map itemL)).length ≤ 581 * l.length
 | [], _ => by simp [Lib.joinTail]
 | x :: l, h => by
  have ih := tail_len l (fun y hy => h y (List.mem_cons_of_mem _ hy))
  have hi := itemL_len (h x (List.mem_cons_self ..))
  simp only [Lib.joinTail, List.map_cons, List.flatten_cons, List.length_append, List.length_cons, List.length_nil] at ih ⊢
  omega
theorem joined_len : ∀ l : List S85, (∀ x ∈ l, okS x = true) → (joined l).length ≤ 581 * l.length
 | [], _ => by simp [joined, Lib.join_nil]
 | x :: l, h => by
  have ih := tail_len l (fun y hy => h y (List.mem_cons_of_mem _ hy))
  have hi := itemL_len (h x (List.mem_cons_self ..))
  rw [joined_cons, List.length_append, List.length_cons]
  omega
theorem right_ok {l : List S85} (h : rightOf l = 0) : l.length ≤ 16 ∧ ∀ x ∈ l, okS x = true := by
 have h2 : (setOf l).2 = 0 := by
  unfold rightOf at h
  by_cases h0 : (setOf l).2 = 0
  ·
   exact h0
  ·
   rw [if_neg h0] at h; exact absurd h h0
 obtain ⟨h3, h4, _⟩ := setOf_ok h2
 exact ⟨h3, (fault_zero l).1 h4⟩
theorem ok_key {x : S85} (h : okS x = true) : keyB x.f0 = true := by
 unfold okS at h
 rw [Bool.and_eq_true] at h
 exact h.1
theorem text_ok {l : List S85} (h : l.length ≤ 16) (ho : ∀ x ∈ l, okS x = true) : attr_Text.f l = some (textB l) := by
 unfold attr_Text.f
 have hj := joined_len l ho
 rw [if_pos ⟨by omega, List.all_eq_true.2 (fun x hx => by
  have := ho x hx
  unfold okS keyB valB at this
  simp only [Bool.and_eq_true, decide_eq_true_eq] at this ⊢
  omega), by omega⟩]
 rfl
theorem fine_of {r : Rd} (hok : r.x.ok) (hn : r.x.nm.size < 140737488355312) (h : rightOf r.a = 0) : r.fine :=
 ⟨hok, hn, text_ok (right_ok h).1 (right_ok h).2, (right_ok h).1⟩
end Go.Proofs.YtefeibndnghejaaGreatDoor.Pr
end
section
set_option linter.unusedVariables false
set_option linter.unusedSimpArgs false
namespace Go.Proofs.YtefeibndnghejaaGreatDoor.Pr
open Go.RowKit Go.Proofs.YtefeibndnghejaaGreatDoorW.PrintWords Go.Proofs.YtefeibndnghejaaGreatDoorW.PrintLast Go.Proofs.YtefeibndnghejaaGreatDoorW.PrintMore
structure Inv (R : List Rd) : Prop where
  fine : ∀ r ∈ R, r.fine ∧ rightOf r.a = 0
  up : R.Pairwise fun s r => s.x.kd = 1 → r.x.kd = 1 → (skeyB s).data.toList = (skeyB r).data.toList → s.x.tm < r.x.tm
theorem Inv.nil : Inv [] := ⟨fun _ h => (nomatch h), List.Pairwise.nil⟩
theorem Inv.kept {R : List Rd} (h : Inv R) (t : Int) : Inv (keptR t R) :=
 ⟨fun r hr => h.fine r (List.mem_filter.1 hr).1, h.up.sublist List.filter_sublist⟩
theorem last_max (l : List Int) (h : l.Pairwise (· < ·)) (x : Int) (hx : x ∈ l) : x ≤ l.getLastD 0 := by
 rcases List.eq_nil_or_concat l with rfl | ⟨m, b, rfl⟩
 ·
  cases hx
 ·
  rw [List.concat_eq_append] at *
  rw [List.getLastD_eq_getLast?, List.getLast?_concat, Option.getD_some]
  rcases List.mem_append.1 hx with hx | hx
  ·
   exact Int.le_of_lt ((List.pairwise_append.1 h).2.2 x hx b (by simp))
  ·
   simp at hx; omega
theorem last_mem (l : List Int) (h : l ≠ []) : l.getLastD 0 ∈ l := by
 rcases List.eq_nil_or_concat l with rfl | ⟨m, b, rfl⟩
 ·
  exact absurd rfl h
 ·
  rw [List.concat_eq_append, List.getLastD_eq_getLast?, List.getLast?_concat, Option.getD_some]
  simp
theorem times_mem {R : List Rd} {key : List UInt8} {t : Int} : t ∈ timesOf R key ↔ ∃ s ∈ R, s.x.kd = 1 ∧ (skeyB s).data.toList = key ∧ s.x.tm = t := by
 unfold timesOf
 simp only [List.mem_map, List.mem_filter, decide_eq_true_eq, and_assoc]
theorem Inv.times {R : List Rd} (h : Inv R) (key : List UInt8) : (timesOf R key).Pairwise (· < ·) := by
 unfold timesOf
 rw [List.pairwise_map]
 refine (h.up.sublist List.filter_sublist).imp_of_mem fun {a b} ha hb hab => ?_
 have h1 := (List.mem_filter.1 ha).2
 have h2 := (List.mem_filter.1 hb).2
 simp only [decide_eq_true_eq] at h1 h2
 exact hab h1.1 h2.1 (h1.2.trans h2.2.symm)
theorem Inv.keys {R : List Rd} (h : Inv R) {s : Rd} (hs : s ∈ R) : ∀ x ∈ s.a, keyB x.f0 = true := fun x hx => ok_key ((right_ok (h.fine s hs).2).2 x hx)
theorem Inv.len {R : List Rd} (h : Inv R) {s : Rd} (hs : s ∈ R) : s.a.length ≤ 16 := (h.fine s hs).1.al
theorem same_at (a b : List S85) (ha : a.length < 4398046511104) (k : Nat) (hk : a.length < k) : belfryref04_Same.f k a b = some (sameL a b) := by
 unfold belfryref04_Same.f
 by_cases h : (a.length : Int) = (b.length : Int)
 ·
  have := same_l0 a b ha (by omega) a.length 0 (by omega) k (by omega)
  rw [show ((0 : Nat) : Int) = 0 from rfl] at this
  rw [if_pos h, this]; rfl
 ·
  rw [if_neg h, sameL_len (by omega)]
theorem old_iff {R : List Rd} (h : Inv R) {r : Rd} (hr : rightOf r.a = 0) : oldP R r ↔ R.any (refOld r fun s => sameL r.a s.a) = true := by
 have hk : ∀ x ∈ r.a, keyB x.f0 = true := fun x hx => ok_key ((right_ok hr).2 x hx)
 have hb : ∀ s ∈ R, (refOld r (fun s => sameL r.a s.a) s = true ↔ r.x.kd = 1 ∧ s.x.kd = 1 ∧ (skeyB s).data.toList = (skeyB r).data.toList ∧ r.x.tm ≤ s.x.tm) := fun s hs => by
  unfold refOld serB
  have hkey := skey_iff hk (h.keys hs)
  have hname : (r.x.nm.toList == s.x.nm.toList) = true ↔ r.x.nm = s.x.nm := by
   rw [beq_iff_eq, ByteArray.toList_eq, ByteArray.toList_eq]
   exact ⟨bytes_ext, fun e => by rw [e]⟩
  have hsame : sameL r.a s.a = true ↔ r.a = s.a := ⟨sameL_eq, fun e => by rw [e]; exact sameL_refl _⟩
  simp only [Bool.and_eq_true, hname, hsame, beq_iff_eq, decide_eq_true_eq]
  constructor
  ·
   rintro ⟨⟨h1, h2, h3, h4⟩, h5⟩
   exact ⟨h1, h2, (hkey.2 ⟨h3, h4⟩).symm, h5⟩
  ·
   rintro ⟨h1, h2, h3, h4⟩
   obtain ⟨h5, h6⟩ := hkey.1 h3.symm
   exact ⟨⟨h1, h2, h5, h6⟩, h4⟩
 rw [List.any_eq_true]
 unfold oldP
 constructor
 ·
  rintro ⟨h1, h2, h3⟩
  obtain ⟨s, hs, h4, h5, h6⟩ := times_mem.1 (last_mem _ h2)
  exact ⟨s, hs, (hb s hs).2 ⟨h1, h4, h5, h6 ▸ h3⟩⟩
 ·
  rintro ⟨s, hs, hsb⟩
  obtain ⟨h1, h2, h3, h4⟩ := (hb s hs).1 hsb
  have hm : s.x.tm ∈ timesOf R (skeyB r).data.toList := times_mem.2 ⟨s, hs, h2, h3, rfl⟩
  exact ⟨h1, List.ne_nil_of_mem hm, Int.le_trans h4 (last_max _ (h.times _) _ hm)⟩
theorem twice_iff {R : List Rd} {r : Rd} : twiceP R r ↔ R.any (refTw r) = true := by
 rw [List.any_eq_true]
 unfold twiceP spansOf refTw
 simp only [ne_eq, List.map_eq_nil_iff, List.filter_eq_nil_iff, decide_eq_true_eq, Bool.and_eq_true, beq_iff_eq, Prod.mk.injEq]
 constructor
 ·
  rintro ⟨h1, h2⟩
  obtain ⟨s, hs, h3⟩ := Classical.not_forall.1 h2 |>.imp fun s hs => Classical.not_imp.1 hs
  have h4 := Classical.not_not.1 h3
  exact ⟨s, hs, h1, h4.1, h4.2.1.symm, h4.2.2.symm⟩
 ·
  rintro ⟨s, hs, h1, h2, h3, h4⟩
  exact ⟨h1, fun hall => hall s hs ⟨h2, h3.symm, h4.symm⟩⟩
theorem put_same (most : Int) {R : List Rd} (h : Inv R) (r : Rd) : putE most R r (rightOf r.a) = refE most R r (fun s => sameL r.a s.a) (rightOf r.a) := by
 unfold putE refE
 by_cases h0 : r.x.kd < 1 ∨ 3 < r.x.kd
 ·
  rw [if_pos h0, if_pos h0]
 ·
  rw [if_neg h0, if_neg h0]
  by_cases h1 : rightOf r.a ≠ 0
  ·
   rw [if_pos h1, if_pos h1]
  ·
   rw [if_neg h1, if_neg h1]
   have ho := old_iff h (Decidable.not_not.1 h1)
   have ht := twice_iff (R := R) (r := r)
   by_cases h2 : oldP R r
   ·
    rw [if_pos h2, if_pos (ho.1 h2)]
   ·
    rw [if_neg h2, if_neg (fun e => h2 (ho.2 e))]
    by_cases h3 : twiceP R r
    ·
     rw [if_pos h3, if_pos (ht.1 h3)]
    ·
     rw [if_neg h3, if_neg (fun e => h3 (ht.2 e))]
theorem Inv.put {most : Int} {R : List Rd} (h : Inv R) {r : Rd} (hok : r.x.ok) (hn : r.x.nm.size < 140737488355312) (he : putE most R r (rightOf r.a) = 0) : Inv (R ++ [r]) := by
 unfold putE at he
 by_cases h0 : r.x.kd < 1 ∨ 3 < r.x.kd
 ·
  rw [if_pos h0] at he; cases he
 ·
  rw [if_neg h0] at he
  by_cases h1 : rightOf r.a ≠ 0
  ·
   rw [if_pos h1] at he; exact absurd he h1
  ·
   rw [if_neg h1] at he
   have hz := Decidable.not_not.1 h1
   by_cases h2 : oldP R r
   ·
    rw [if_pos h2] at he; cases he
   ·
    refine ⟨fun s hs => ?_, ?_⟩
    ·
     rcases List.mem_append.1 hs with hs | hs
     ·
      exact h.fine s hs
     ·
      rw [List.mem_singleton] at hs
      subst hs
      exact ⟨fine_of hok hn hz, hz⟩
    ·
     rw [List.pairwise_append]
     refine ⟨h.up, List.pairwise_singleton _ _, fun s hs q hq k1 k2 hkey => ?_⟩
     rw [List.mem_singleton] at hq
     subst hq
     have hm : s.x.tm ∈ timesOf R (skeyB q).data.toList := times_mem.2 ⟨s, hs, k1, hkey, rfl⟩
     have hl := last_max _ (h.times _) _ hm
     by_cases hlt : s.x.tm < q.x.tm
     ·
      exact hlt
     ·
      exact absurd (show oldP R q from ⟨k2, List.ne_nil_of_mem hm, by omega⟩) h2
theorem Inv.next {most : Int} {R : List Rd} (h : Inv R) (k : Int) {r : Rd} (t : Int) (hok : r.x.ok) (hn : r.x.nm.size < 140737488355312) : Inv (nextR most R k r t (rightOf r.a)) := by
 unfold nextR
 split
 ·
  exact h.kept t
 ·
  split
  ·
   exact h.put hok hn (by assumption)
  ·
   exact h
theorem ev_all {α β γ : Type} (f : Nat → α → Option β) (v : α → β) : ∀ xs : List α, (∀ x ∈ xs, Ev (fun k => f k x) (v x)) → ∃ K, ∀ x ∈ xs, ∀ k, K ≤ k → f k x = some (v x)
 | [], _ => ⟨0, fun _ h => (nomatch h)⟩
 | x :: xs, h => by
  obtain ⟨K, hK⟩ := ev_all (γ := γ) f v xs (fun y hy => h y (List.mem_cons_of_mem _ hy))
  obtain ⟨L, hL⟩ := h x (List.mem_cons_self ..)
  refine ⟨max K L, fun y hy k hk => ?_⟩
  rcases List.mem_cons.1 hy with rfl | hy
  ·
   exact hL k (by omega)
  ·
   exact hK y hy k (by omega)
theorem ops_ok (most : Int) (xs : List Od) (hx : ∀ x ∈ xs, x.r.x.ok ∧ x.r.x.nm.size < 140737488355312 ∧ x.r.a.length < 4398046511104) : ∃ k1 k2 kn, ∀ x ∈ xs, ∃ why, OpOk k1 k2 kn most Inv x why := by
 obtain ⟨k1, h1⟩ := ev_all (γ := Nat) (fun k (x : Od) => attr_Right.f k x.r.a) (fun x => rightOf x.r.a) xs (fun x h => right_ev x.r.a (hx x h).2.2)
 obtain ⟨k2, h2⟩ := ev_all (γ := Nat) (fun k (x : Od) => belfryref04_Right.f k x.r.a) (fun x => rightOf x.r.a) xs (fun x h => ref_right_ev x.r.a)
 refine ⟨k1, k2, 4398046511104, fun x h => ⟨rightOf x.r.a, ?_⟩⟩
 obtain ⟨hok, hn, hl⟩ := hx x h
 exact ⟨hl, h1 x h k1 (Nat.le_refl _), h2 x h k2 (Nat.le_refl _), fun e => fine_of hok hn e, by rw [same_at _ _ hl _ hl, sameL_refl],
  fun R hR => ⟨fun s => sameL x.r.a s.a, fun s _ => same_at _ _ hl _ hl, put_same most hR x.r⟩,
  fun R hR => hR.next x.k x.t hok hn, fun R hR s hs => by
   have := hR.len hs
   rw [same_at _ _ (by omega) _ (by omega), sameL_refl]⟩
end Go.Proofs.YtefeibndnghejaaGreatDoor.Pr
end
section
set_option linter.unusedVariables false
set_option linter.unusedSimpArgs false
namespace Go.Proofs.YtefeibndnghejaaGreatDoor.Pr
open Go Go.RowKit Go.ChangeShapes Go.WideShapes Go.Deep Go.Proofs.YtefeibndnghejaaGreatDoorW.PrintWords Go.Proofs.YtefeibndnghejaaGreatDoorW.PrintLast Go.Proofs.YtefeibndnghejaaGreatDoorW.PrintMore
def Wt {H : Type} (t : TypeId) (d : DataW H) : Prop := ∀ n ∈ d.weights Tryz.prog t, n ≤ reachBytes
section
variable {H : Type}
theorem weightsAll_mem {P : Program} {e : TypeId} {x : DataW H} : ∀ {l : List (DataW H)}, x ∈ l → ∀ n ∈ x.weights P e, n ∈ DataW.weightsAll P e l
 | [], h, _, _ => (nomatch h)
 | y :: l, h, n, hn => by
  simp only [DataW.weightsAll, List.mem_append]
  rcases List.mem_cons.1 h with rfl | h
  ·
   exact .inl hn
  ·
   exact .inr (weightsAll_mem h n hn)
theorem Wt.of {ts : List TypeId} {ds : List (DataW H)} (h : (DataW.weightsEach Tryz.prog ts ds).all (· ≤ reachBytes) = true) {j : Nat} {t : TypeId} {d : DataW H} (ht : ts[j]? = some t) (hd : ds[j]? = some d) : Wt t d :=
 fun n hn => of_decide_eq_true (List.all_eq_true.1 h n (DataW.weights_mem_each ht hd n hn))
theorem Wt.slice {t e : TypeId} (hu : Tryz.prog.underlying t = some (.slice e)) {el sp : List (DataW H)} (h : Wt t (.slice el sp)) : (el.length + sp.length) * Tryz.prog.bytesOf e ≤ reachBytes ∧ ∀ x ∈ el, Wt e x := by
 unfold Wt at h
 simp only [DataW.weights, hu, List.mem_cons, List.mem_append] at h
 exact ⟨h _ (.inl rfl), fun x hx n hn => h n (.inr (.inl (weightsAll_mem hx n hn)))⟩
theorem Wt.fields {t : TypeId} {fs : Array Field} (hu : Tryz.prog.underlying t = some (.struct fs)) {ps : List (DataW H)} (h : Wt t (.agg ps)) {j : Nat} {T : TypeId} {d : DataW H} (hf : (fs.toList.map (·.type))[j]? = some T) (hd : ps[j]? = some d) : Wt T d := by
 unfold Wt at h
 simp only [DataW.weights, hu] at h
 exact fun n hn => h n (DataW.weights_mem_each hf hd n hn)
theorem Wt.str {t : TypeId} {s : ByteArray} (h : Wt t (.lit (.string s.data.toList) : DataW H)) : s.size ≤ reachBytes := by
 unfold Wt at h
 simp only [DataW.weights, List.mem_singleton, forall_eq, Array.length_toList] at h
 exact h
end
theorem lcons {n : Nat} : ∀ l : List Value, l.length = n + 1 → ∃ c t, l = c :: t ∧ t.length = n
 | [], h => by cases h
 | c :: t, h => ⟨c, t, rfl, Nat.succ.inj h⟩
section
variable {H : Type} {enc : TypeId × Value → H} {W : World} {base : Nat} {spare : Nat → Bool} {held : Bool}
theorem fld {fs : Array Field} {cs : List Value} {n : Nat} {ys : List (DataW H × List MemPlace)} (hf : ∀ (i : Nat) (f : Field), fs[i]? = some f → DataW.trod enc Tryz.prog W base spare held n f.type ((cs.drop f.offset).take (Tryz.prog.cellsOf f.type)) = ys[i]?)
  {i : Nat} {f : Field} {T o k : Nat} (hi : fs[i]? = some f) (ht : f.type = T) (ho : f.offset = o) (hc : Tryz.prog.cellsOf T = k) : DataW.trod enc Tryz.prog W base spare held n T ((cs.drop o).take k) = ys[i]? := by
 have := hf i f hi
 rw [ht, ho, hc] at this
 exact this
theorem attrs_w {fuel : Nat} {v : Value} {y : DataW H × List MemPlace} (h : DataW.trod enc Tryz.prog W base spare held fuel 32 [v] = some y) (hs : Wt 32 y.1) :
  ∃ (A : Option Addr) (l : List S85) (c : Nat), v = .slice A l.length c ∧ l.length ≤ c ∧ l.length < 4398046511104 ∧ k85.C W A l.length l ∧ (0 < l.length → ∀ ad, A = some ad → ad.block < W.heap.size) := by
 rcases open_slice_fields Tryz.underlying32 Tryz.underlying85 (by kernel_rfl) (by kernel_rfl) h with ⟨hcs, _⟩ | ⟨x, len, cap, m, D, Pl, hcs, _, hl, hm, hmm, hx, hi⟩
 ·
  obtain rfl := List.singleton_inj.1 hcs
  exact ⟨none, [], 0, rfl, Nat.le_refl _, by simp, flat85.C' (xs := []) (by simp) (fun h => absurd h (by simp)), fun h => absurd h (by simp)⟩
 ·
  obtain rfl := List.singleton_inj.1 hcs
  subst hx
  have z := (hs.slice Tryz.underlying32).1
  rw [show Tryz.prog.bytesOf 85 = 32 by kernel_rfl] at z
  simp only [List.length_map, List.length_range] at z
  have hz : reachBytes = 140737488351232 := rfl
  have hlm : len ≤ m := by rw [hmm]; split <;> omega
  obtain ⟨xs, hxl, hxs⟩ := list_of (Q := fun i (y : S85) => W.cell? (x.add (i * 2 + 0)) = some (.string y.f0) ∧ W.cell? (x.add (i * 2 + 1)) = some (.string y.f1)) len (fun i hil => by
   obtain ⟨ys, n, _, _, _, hfld⟩ := hi i (by omega)
   obtain ⟨v0, y0, hc0, _, ht0⟩ := hfld 0 _ rfl
   obtain ⟨v1, y1, hc1, _, ht1⟩ := hfld 1 _ rfl
   obtain ⟨s0, e0, _, _⟩ := DataW.trod_string Tryz.underlying9 ht0
   obtain ⟨s1, e1, _, _⟩ := DataW.trod_string Tryz.underlying9 ht1
   simp at e0 e1
   subst e0 e1
   exact ⟨⟨s0, s1⟩, hc0, hc1⟩)
  have := flat85.C' (w := W) (A := some x) (xs := xs) (by omega) (fun _ => ⟨x, rfl, fun t u hu => by
   obtain ⟨j, i, p, rfl, hi2, hp, he⟩ := flat_split 2 (fun _ => rfl) xs t u hu
   obtain ⟨c0, c1⟩ := hxs j p hp
   match i, hi2 with
   | 0, _ => simp [enc85] at he; subst he; exact c0
   | 1, _ => simp [enc85] at he; subst he; exact c1⟩)
  subst hxl
  refine ⟨some x, xs, cap, rfl, hl, by omega, this, fun hp ad e => ?_⟩
  cases e
  obtain ⟨c0, _⟩ := hxs 0 _ (List.getElem?_eq_getElem hp)
  exact World.block_lt_of_cell? W _ c0
theorem ints_of {T n : Nat} (hu : Tryz.prog.underlying T = some (.array n 5)) (hc : Tryz.prog.cellsOf T = n) {fuel : Nat} {cs : List Value} {y : DataW H × List MemPlace} (h : DataW.trod enc Tryz.prog W base spare held fuel T cs = some y) :
  ∃ xs : List Int, xs.length = n ∧ cs = xs.map (Value.int .u8) ∧ ∀ b ∈ xs, 0 ≤ b ∧ b < 256 := by
 obtain ⟨ys, m, _, _, hcl, hyl, hf⟩ := DataW.trod_array hu h
 rw [hc] at hcl
 obtain ⟨xs, hxl, hxs⟩ := list_of (Q := fun i (k : Int) => cs[i]? = some (.int .u8 k) ∧ 0 ≤ k ∧ k < 256) n (fun i hi => by
  have h1 := hf i hi
  rw [show Tryz.prog.cellsOf 5 = 1 by kernel_rfl, Nat.mul_one, List.getElem?_eq_getElem (show i < ys.length by omega)] at h1
  obtain ⟨k, e, _, hwf⟩ := DataW.trod_int Tryz.underlying5 h1
  refine ⟨k, ?_, ?_⟩
  ·
   have := congrArg (fun l => l[0]?) e
   simpa [List.getElem?_take, List.getElem?_drop] using this
  ·
   have hw := (Lit.wf_int_iff .u8 k).1 hwf
   rw [show IntKind.u8.min = 0 from rfl, show IntKind.u8.max = 255 from rfl] at hw
   omega)
 refine ⟨xs, hxl, List.ext_getElem? fun i => ?_, fun b hb => ?_⟩
 ·
  rw [List.getElem?_map]
  rcases Nat.lt_or_ge i n with hi | hi
  ·
   have hx : xs[i]? = some xs[i] := List.getElem?_eq_getElem (by omega)
   rw [(hxs i _ hx).1, hx]; rfl
  ·
   rw [List.getElem?_eq_none (by omega), List.getElem?_eq_none (by omega)]; rfl
 ·
  obtain ⟨i, hi⟩ := List.getElem?_of_mem hb
  exact (hxs i b hi).2
theorem record_w {fuel : Nat} {cs : List Value} {y : DataW H × List MemPlace} (h : DataW.trod enc Tryz.prog W base spare held fuel 36 cs = some y) (hs : Wt 36 y.1) :
  ∃ (x : Rc) (A : Option Addr) (l : List S85) (c : Nat), x.ok ∧ cs = (x.cells (.slice A l.length c)).toList ∧ l.length ≤ c ∧ l.length < 4398046511104 ∧ k85.C W A l.length l ∧ (0 < l.length → ∀ ad, A = some ad → ad.block < W.heap.size) ∧ x.nm.size ≤ reachBytes := by
 obtain ⟨ys, n, _, hy, hcl, hyl, hf⟩ := DataW.trod_struct Tryz.underlying36 h
 rw [show Tryz.prog.cellsOf 36 = 40 by kernel_rfl] at hcl
 obtain ⟨c0, u0, rfl, g0⟩ := lcons cs hcl
 obtain ⟨c1, u1, rfl, g1⟩ := lcons u0 g0
 obtain ⟨c2, u2, rfl, g2⟩ := lcons u1 g1
 obtain ⟨c3, u3, rfl, g3⟩ := lcons u2 g2
 obtain ⟨c4, u4, rfl, g4⟩ := lcons u3 g3
 obtain ⟨c5, u5, rfl, g5⟩ := lcons u4 g4
 obtain ⟨c6, u6, rfl, g6⟩ := lcons u5 g5
 obtain ⟨c7, u7, rfl, g7⟩ := lcons u6 g6
 obtain ⟨c8, u8, rfl, g8⟩ := lcons u7 g7
 obtain ⟨c9, u9, rfl, g9⟩ := lcons u8 g8
 obtain ⟨c10, u10, rfl, g10⟩ := lcons u9 g9
 obtain ⟨c11, u11, rfl, g11⟩ := lcons u10 g10
 obtain ⟨c12, u12, rfl, g12⟩ := lcons u11 g11
 obtain ⟨c13, u13, rfl, g13⟩ := lcons u12 g12
 obtain ⟨c14, u14, rfl, g14⟩ := lcons u13 g13
 obtain ⟨c15, u15, rfl, g15⟩ := lcons u14 g14
 obtain ⟨c16, u16, rfl, g16⟩ := lcons u15 g15
 obtain ⟨c17, u17, rfl, g17⟩ := lcons u16 g16
 obtain ⟨c18, u18, rfl, g18⟩ := lcons u17 g17
 obtain ⟨c19, u19, rfl, g19⟩ := lcons u18 g18
 obtain ⟨c20, u20, rfl, g20⟩ := lcons u19 g19
 obtain ⟨c21, u21, rfl, g21⟩ := lcons u20 g20
 obtain ⟨c22, u22, rfl, g22⟩ := lcons u21 g21
 obtain ⟨c23, u23, rfl, g23⟩ := lcons u22 g22
 obtain ⟨c24, u24, rfl, g24⟩ := lcons u23 g23
 obtain ⟨c25, u25, rfl, g25⟩ := lcons u24 g24
 obtain ⟨c26, u26, rfl, g26⟩ := lcons u25 g25
 obtain ⟨c27, u27, rfl, g27⟩ := lcons u26 g26
 obtain ⟨c28, u28, rfl, g28⟩ := lcons u27 g27
 obtain ⟨c29, u29, rfl, g29⟩ := lcons u28 g28
 obtain ⟨c30, u30, rfl, g30⟩ := lcons u29 g29
 obtain ⟨c31, u31, rfl, g31⟩ := lcons u30 g30
 obtain ⟨c32, u32, rfl, g32⟩ := lcons u31 g31
 obtain ⟨c33, u33, rfl, g33⟩ := lcons u32 g32
 obtain ⟨c34, u34, rfl, g34⟩ := lcons u33 g33
 obtain ⟨c35, u35, rfl, g35⟩ := lcons u34 g34
 obtain ⟨c36, u36, rfl, g36⟩ := lcons u35 g35
 obtain ⟨c37, u37, rfl, g37⟩ := lcons u36 g36
 obtain ⟨c38, u38, rfl, g38⟩ := lcons u37 g37
 obtain ⟨c39, u39, rfl, g39⟩ := lcons u38 g38
 obtain rfl := List.eq_nil_of_length_eq_zero g39
 subst hy
 have t0 : DataW.trod enc Tryz.prog W base spare held n 3 [c0] = ys[0]? := fld hf (i := 0) rfl rfl rfl (by kernel_rfl) (k := 1) (o := 0)
 rw [List.getElem?_eq_getElem (by rw [hyl]; exact (by decide : 0 < 11))] at t0
 have t1 : DataW.trod enc Tryz.prog W base spare held n 9 [c1] = ys[1]? := fld hf (i := 1) rfl rfl rfl (by kernel_rfl) (k := 1) (o := 1)
 rw [List.getElem?_eq_getElem (by rw [hyl]; exact (by decide : 1 < 11))] at t1
 have t2 : DataW.trod enc Tryz.prog W base spare held n 32 [c2] = ys[2]? := fld hf (i := 2) rfl rfl rfl (by kernel_rfl) (k := 1) (o := 2)
 rw [List.getElem?_eq_getElem (by rw [hyl]; exact (by decide : 2 < 11))] at t2
 have t3 : DataW.trod enc Tryz.prog W base spare held n 2 [c3] = ys[3]? := fld hf (i := 3) rfl rfl rfl (by kernel_rfl) (k := 1) (o := 3)
 rw [List.getElem?_eq_getElem (by rw [hyl]; exact (by decide : 3 < 11))] at t3
 have t4 : DataW.trod enc Tryz.prog W base spare held n 2 [c4] = ys[4]? := fld hf (i := 4) rfl rfl rfl (by kernel_rfl) (k := 1) (o := 4)
 rw [List.getElem?_eq_getElem (by rw [hyl]; exact (by decide : 4 < 11))] at t4
 have t5 : DataW.trod enc Tryz.prog W base spare held n 2 [c5] = ys[5]? := fld hf (i := 5) rfl rfl rfl (by kernel_rfl) (k := 1) (o := 5)
 rw [List.getElem?_eq_getElem (by rw [hyl]; exact (by decide : 5 < 11))] at t5
 have t6 : DataW.trod enc Tryz.prog W base spare held n 3 [c6] = ys[6]? := fld hf (i := 6) rfl rfl rfl (by kernel_rfl) (k := 1) (o := 6)
 rw [List.getElem?_eq_getElem (by rw [hyl]; exact (by decide : 6 < 11))] at t6
 have t7 : DataW.trod enc Tryz.prog W base spare held n 9 [c7] = ys[7]? := fld hf (i := 7) rfl rfl rfl (by kernel_rfl) (k := 1) (o := 7)
 rw [List.getElem?_eq_getElem (by rw [hyl]; exact (by decide : 7 < 11))] at t7
 have t8 : DataW.trod enc Tryz.prog W base spare held n 33 [c8, c9, c10, c11, c12, c13, c14, c15, c16, c17, c18, c19, c20, c21, c22, c23] = ys[8]? := fld hf (i := 8) rfl rfl rfl (by kernel_rfl) (k := 16) (o := 8)
 rw [List.getElem?_eq_getElem (by rw [hyl]; exact (by decide : 8 < 11))] at t8
 have t9 : DataW.trod enc Tryz.prog W base spare held n 34 [c24, c25, c26, c27, c28, c29, c30, c31] = ys[9]? := fld hf (i := 9) rfl rfl rfl (by kernel_rfl) (k := 8) (o := 24)
 rw [List.getElem?_eq_getElem (by rw [hyl]; exact (by decide : 9 < 11))] at t9
 have t10 : DataW.trod enc Tryz.prog W base spare held n 34 [c32, c33, c34, c35, c36, c37, c38, c39] = ys[10]? := fld hf (i := 10) rfl rfl rfl (by kernel_rfl) (k := 8) (o := 32)
 rw [List.getElem?_eq_getElem (by rw [hyl]; exact (by decide : 10 < 11))] at t10
 obtain ⟨n0, e0, _, _⟩ := DataW.trod_int Tryz.underlying3 t0
 obtain ⟨s1, e1, g1, _⟩ := DataW.trod_string Tryz.underlying9 t1
 have w1 := hs.fields Tryz.underlying36 (j := 1) (T := 9) rfl (by rw [List.getElem?_map, List.getElem?_eq_getElem (by rw [hyl]; exact (by decide : 1 < 11))]; rfl)
 have w2 := hs.fields Tryz.underlying36 (j := 2) (T := 32) rfl (by rw [List.getElem?_map, List.getElem?_eq_getElem (by rw [hyl]; exact (by decide : 2 < 11))]; rfl)
 rw [g1] at w1
 obtain ⟨A, l, c, rfl, hl, hb, hC, hv⟩ := attrs_w t2 w2
 obtain ⟨n3, e3, _, _⟩ := DataW.trod_int Tryz.underlying2 t3
 obtain ⟨n4, e4, _, _⟩ := DataW.trod_int Tryz.underlying2 t4
 obtain ⟨n5, e5, _, _⟩ := DataW.trod_int Tryz.underlying2 t5
 obtain ⟨n6, e6, _, _⟩ := DataW.trod_int Tryz.underlying3 t6
 obtain ⟨s7, e7, _, _⟩ := DataW.trod_string Tryz.underlying9 t7
 obtain ⟨tr, h8, e8, b8⟩ := ints_of Tryz.underlying33 (by kernel_rfl) t8
 obtain ⟨sid, h9, e9, b9⟩ := ints_of Tryz.underlying34 (by kernel_rfl) t9
 obtain ⟨pa, h10, e10, _⟩ := ints_of Tryz.underlying34 (by kernel_rfl) t10
 refine ⟨⟨n0, s1, n3, n4, n5, n6, s7, tr, sid, pa⟩, A, l, c, ⟨h8, h9, h10, b8, b9⟩, ?_, hl, hb, hC, hv, w1.str⟩
 show [c0, c1, Value.slice A l.length c, c3, c4, c5, c6, c7, c8, c9, c10, c11, c12, c13, c14, c15, c16, c17, c18, c19, c20, c21, c22, c23, c24, c25, c26, c27, c28, c29, c30, c31, c32, c33, c34, c35, c36, c37, c38, c39] = _
 show [c0] ++ [c1] ++ [Value.slice A l.length c] ++ [c3] ++ [c4] ++ [c5] ++ [c6] ++ [c7] ++ ([c8, c9, c10, c11, c12, c13, c14, c15, c16, c17, c18, c19, c20, c21, c22, c23] ++ ([c24, c25, c26, c27, c28, c29, c30, c31] ++ [c32, c33, c34, c35, c36, c37, c38, c39])) = _
 rw [e0, e1, e3, e4, e5, e6, e7, e8, e9, e10]
 rfl
theorem op_w {fuel : Nat} {cs : List Value} {y : DataW H × List MemPlace} (h : DataW.trod enc Tryz.prog W base spare held fuel 51 cs = some y) (hs : Wt 51 y.1) :
  ∃ (x : Od) (A : Option Addr) (c : Nat), cs = (opC x.k (x.r.x.cells (.slice A x.r.a.length c)) x.t).toList ∧ x.r.x.ok ∧ x.r.a.length ≤ c ∧ x.r.a.length < 4398046511104 ∧ k85.C W A x.r.a.length x.r.a ∧ (0 < x.r.a.length → ∀ ad, A = some ad → ad.block < W.heap.size) ∧ x.r.x.nm.size ≤ reachBytes := by
 obtain ⟨ys, n, _, hy, hcl, hyl, hf⟩ := DataW.trod_struct Tryz.underlying51 h
 rw [show Tryz.prog.cellsOf 51 = 42 by kernel_rfl] at hcl
 subst hy
 have t0 : DataW.trod enc Tryz.prog W base spare held n 3 ((cs.drop 0).take 1) = ys[0]? := fld hf (i := 0) rfl rfl rfl (by kernel_rfl)
 rw [List.getElem?_eq_getElem (by rw [hyl]; exact (by decide : 0 < 3))] at t0
 have t1 : DataW.trod enc Tryz.prog W base spare held n 36 ((cs.drop 1).take 40) = ys[1]? := fld hf (i := 1) rfl rfl rfl (by kernel_rfl)
 rw [List.getElem?_eq_getElem (by rw [hyl]; exact (by decide : 1 < 3))] at t1
 have t2 : DataW.trod enc Tryz.prog W base spare held n 2 ((cs.drop 41).take 1) = ys[2]? := fld hf (i := 2) rfl rfl rfl (by kernel_rfl)
 rw [List.getElem?_eq_getElem (by rw [hyl]; exact (by decide : 2 < 3))] at t2
 obtain ⟨k, e0, _, _⟩ := DataW.trod_int Tryz.underlying3 t0
 obtain ⟨t, e2, _, _⟩ := DataW.trod_int Tryz.underlying2 t2
 have w1 := hs.fields Tryz.underlying51 (j := 1) (T := 36) rfl (by rw [List.getElem?_map, List.getElem?_eq_getElem (by rw [hyl]; exact (by decide : 1 < 3))]; rfl)
 obtain ⟨x, A, l, c, hok, e1, hl, hb, hC, hv, hn⟩ := record_w t1 w1
 refine ⟨⟨k, ⟨x, l⟩, t⟩, A, c, ?_, hok, hl, hb, hC, hv, hn⟩
 show cs = Value.int .i64 k :: ((x.cells (.slice A l.length c)).toList ++ [Value.int .i64 t])
 rw [← e1, ← e2]
 obtain ⟨c0, r, rfl, hr⟩ := lcons cs hcl
 simp only [List.drop_zero, List.take_succ_cons, List.take_zero, List.cons.injEq, and_true] at e0
 subst e0
 simp only [List.drop_succ_cons, List.drop_zero]
 rw [List.take_of_length_le (i := 1) (by rw [List.length_drop]; omega), List.take_append_drop]
set_option maxRecDepth 100000 in
theorem ops_w {a : Option Addr} {len cap : Nat} {d : DataW H} {ps : List MemPlace} (h : DataW.Trod enc Tryz.prog W base spare held 22 (.slice a len cap) d ps) (hs : Wt 22 d) :
  ∃ xs : List Od, xs.length = len ∧ len ≤ cap ∧ OpsC W a xs ∧ ∀ x ∈ xs, x.r.x.ok ∧ x.r.x.nm.size < 140737488355312 ∧ x.r.a.length < 4398046511104 := by
 have hz : reachBytes = 140737488351232 := rfl
 obtain ⟨fuel, hf⟩ := h
 rcases open_slice Tryz.underlying22 hf with ⟨hcs, _⟩ | ⟨b, l, c, m, n, D, Pl, hcs, _, hl, hm, hmm, hx, hi⟩
 ·
  simp [Value.cells] at hcs
  obtain ⟨rfl, rfl, rfl⟩ := hcs
  exact ⟨[], rfl, Nat.le_refl _, ⟨by simp, fun j x h => by simp at h⟩, fun x h => (nomatch h)⟩
 ·
  simp [Value.cells] at hcs
  obtain ⟨rfl, rfl, rfl⟩ := hcs
  obtain ⟨hx, _⟩ := Prod.mk.inj hx
  subst hx
  obtain ⟨_, hel⟩ := hs.slice Tryz.underlying22
  have hlm : len ≤ m := by rw [hmm]; split <;> omega
  have hmx : maxLen = 9223372036854775807 := rfl
  obtain ⟨xs, hxl, hxs⟩ := list_of (Q := fun i (x : Od) => (∃ (A' : Option Addr) (c' : Nat), b.spot = none ∧ W.rangeAt b.block (b.off + i * 42) (opC x.k (x.r.x.cells (.slice A' x.r.a.length c')) x.t).toList ∧ x.r.a.length ≤ c' ∧ Kd.C k85 W A' x.r.a.length x.r.a ∧ (0 < x.r.a.length → ∀ ad, A' = some ad → ad.block < W.heap.size)) ∧ x.r.x.ok ∧ x.r.x.nm.size < 140737488355312 ∧ x.r.a.length < 4398046511104) len (fun i hil => by
   obtain ⟨cs, hc, ht⟩ := hi i (by omega)
   rw [show Tryz.prog.cellsOf 51 = 42 by kernel_rfl] at hc
   obtain ⟨_, hcl, hat⟩ := World.cells?_some hc
   obtain ⟨x, A', c', hcs, hok, hac, hal, hC, hv, hn⟩ := op_w ht (hel _ (List.mem_map.2 ⟨i, List.mem_range.2 hil, rfl⟩))
   have hsp : b.spot = none := by
    obtain ⟨cs0, hc0, _⟩ := hi 0 (by omega)
    rw [show Tryz.prog.cellsOf 51 = 42 by kernel_rfl] at hc0
    obtain ⟨_, hcl0, hat0⟩ := World.cells?_some hc0
    have h0 := hat0 0 (by decide)
    rw [List.getElem?_eq_getElem (by omega)] at h0
    have hb : (b.add (0 * 42)).add 0 = b := by simp [Addr.add]
    rw [hb] at h0
    unfold World.cell? at h0
    split at h0
    ·
     split at h0
     ·
      cases h0
     ·
      rename_i hs; simpa using hs
    ·
     cases h0
   refine ⟨x, ⟨A', c', hsp, fun j u hu => ?_, hac, hC, hv⟩, hok, by omega, hal⟩
   rw [← hcs] at hu
   have hj : j < 42 := by have := (List.getElem?_eq_some_iff.1 hu).1; omega
   have h1 := hat j hj
   obtain ⟨bb, bo, bs⟩ := b
   simp only at hsp
   subst hsp
   rw [Addr.add_mid, Addr.add_mid] at h1
   exact h1.trans hu)
  subst hxl
  refine ⟨xs, rfl, hl, ⟨by omega, fun j x hj => ?_⟩, fun x hx => ?_⟩
  ·
   obtain ⟨⟨A', c', hsp, hr, hac, hC, hv⟩, hok, _⟩ := hxs j x hj
   obtain ⟨bb, bo, bs⟩ := b
   simp only at hsp
   subst hsp
   exact ⟨bb, bo, A', c', rfl, hok, hr, hac, hC, hv⟩
  ·
   obtain ⟨j, hj⟩ := List.getElem?_of_mem hx
   exact (hxs j x hj).2
end
end Go.Proofs.YtefeibndnghejaaGreatDoor.Pr
end
