import Derived.Test.YtkedidjjhhjdbaaGreatDoorBc0
import Derived.Test.YtkedidjjhhjdbaaGreatDoorBc23
section
set_option linter.unusedVariables false
set_option linter.unusedSimpArgs false
namespace Go.Proofs.YtkedidjjhhjdbaaGreatDoor.Pr
open Go.RowKit Go.Proofs.YtkedidjjhhjdbaaGreatDoorW.PrintWords Go.Proofs.YtkedidjjhhjdbaaGreatDoorW.PrintLast Go.Proofs.YtkedidjjhhjdbaaGreatDoorW.PrintMore
def unq : List UInt8 → Option (List UInt8 × Nat)
  | [] => none
  | [b] => if b = 34 then some ([], 1) else none
  | b :: c :: l =>
    if b = 34 then some ([], 1) else if b = 10 then none else if b = 92 then
      (if c = 110 then (unq l).map fun x => (10 :: x.1, x.2 + 2) else if c = 34 then (unq l).map fun x => (34 :: x.1, x.2 + 2) else if c = 92 then (unq l).map fun x => (92 :: x.1, x.2 + 2) else none)
    else (unq (c :: l)).map fun x => (b :: x.1, x.2 + 1)
theorem unq_len : ∀ (l v : List UInt8) (n : Nat), unq l = some (v, n) → v.length ≤ n ∧ n ≤ l.length
 | [], v, n, h => by cases h
 | [b], v, n, h => by
  rw [unq] at h; by_cases hb : b = 34; rotate_left
  · rw [if_neg hb] at h; cases h
  rw [if_pos hb] at h; cases h; simp
 | b :: c :: l, v, n, h => by
  rw [unq] at h
  have two : ∀ x : UInt8, (unq l).map (fun y => (x :: y.1, y.2 + 2)) = some (v, n) → v.length ≤ n ∧ n ≤ (b :: c :: l).length := by
   intro x hx
   obtain ⟨⟨v1, n1⟩, h1, h2⟩ := Option.map_eq_some_iff.1 hx
   cases h2
   have := unq_len l v1 n1 h1
   simp only [List.length_cons]; omega
  by_cases hb : b = 34
  · rw [if_pos hb] at h; cases h; simp
  rw [if_neg hb] at h; by_cases h10 : b = 10
  · rw [if_pos h10] at h; cases h
  rw [if_neg h10] at h; by_cases h92 : b = 92; rotate_left
  ·
   rw [if_neg h92] at h
   obtain ⟨⟨v1, n1⟩, h1, h2⟩ := Option.map_eq_some_iff.1 h
   cases h2
   have := unq_len (c :: l) v1 n1 h1
   simp only [List.length_cons] at *; omega
  rw [if_pos h92] at h; by_cases c1 : c = 110
  · rw [if_pos c1] at h; exact two _ h
  rw [if_neg c1] at h; by_cases c2 : c = 34
  · rw [if_pos c2] at h; exact two _ h
  rw [if_neg c2] at h; by_cases c3 : c = 92; rotate_left
  · rw [if_neg c3] at h; cases h
  rw [if_pos c3] at h; exact two _ h
theorem unq_esc (rest : List UInt8) : ∀ v : List UInt8, unq (escL v ++ (34 :: rest)) = some (v, (escL v).length + 1)
 | [] => by
  show unq (34 :: rest) = _
  cases rest <;> simp [unq, escL]
 | b :: v => by
  have ih := unq_esc rest v
  have e : escL (b :: v) = esc b ++ escL v := by simp [escL]
  rw [e, List.append_assoc]
  unfold esc
  by_cases h10 : b = 10
  ·
   subst h10; rw [if_pos rfl]
   show unq (92 :: 110 :: (escL v ++ 34 :: rest)) = _
   rw [unq, if_neg (by decide), if_neg (by decide), if_pos rfl, if_pos rfl, ih]
   simp
  rw [if_neg h10]; by_cases h92 : b = 92
  ·
   subst h92; rw [if_pos rfl]
   show unq (92 :: 92 :: (escL v ++ 34 :: rest)) = _
   rw [unq, if_neg (by decide), if_neg (by decide), if_pos rfl, if_neg (by decide), if_neg (by decide), if_pos rfl, ih]
   simp
  rw [if_neg h92]; by_cases h34 : b = 34
  ·
   subst h34; rw [if_pos rfl]
   show unq (92 :: 34 :: (escL v ++ 34 :: rest)) = _
   rw [unq, if_neg (by decide), if_neg (by decide), if_pos rfl, if_neg (by decide), if_pos rfl, ih]
   simp
  rw [if_neg h34]
  show unq (b :: (escL v ++ 34 :: rest)) = _
  obtain ⟨c, l, hcl⟩ : ∃ c l, escL v ++ 34 :: rest = c :: l := by
   cases h : escL v ++ 34 :: rest with
   | nil => simp at h
   | cons c l => exact ⟨c, l, rfl⟩
  rw [hcl] at ih ⊢
  rw [unq, if_neg h34, if_neg h10, if_neg h92, ih]
  simp
theorem quoted_l0 (q : List UInt8) (hq : q.length ≤ 100000) : ∀ (l : List UInt8) (i : Nat) (acc : List UInt8), q.drop i = l → i ≤ q.length → acc.length ≤ i →
  (∀ v n, unq l = some (v, n) → Ev (fun k => attr_reader_quoted.l0 k (B q) (i : Int) false acc) (B (acc ++ v), B q, ((i + n : Nat) : Int), false)) ∧
  (unq l = none → ∃ j : Int, Ev (fun k => attr_reader_quoted.l0 k (B q) (i : Int) false acc) (⟨#[]⟩, B q, j, true))
 | l, i, acc, hl, hi, ha => by
  have hlen : l.length = q.length - i := by rw [← hl, List.length_drop]
  have hw : ∀ n : Nat, n ≤ 200000 → wrap64 ((n : Int) + 1) = ((n + 1 : Nat) : Int) := fun n hn => wrap_next n 300000 (by omega) (by omega)
  match l, hl, hlen with
  | [], hl, hlen =>
   simp only [List.length_nil] at hlen
   refine ⟨fun v n h => (by cases h), fun _ => ⟨(i : Int), Ev.succ (g := fun _ => some (⟨#[]⟩, B q, (i : Int), true)) (Ev.const rfl) (fun k => by
    rw [attr_reader_quoted.l0, if_neg (by simp), if_neg (by rw [B_size]; omega)])⟩⟩
  | b :: t, hl, hlen =>
   simp only [List.length_cons] at hlen
   have hiq : i < q.length := by omega
   have hb : q[i] = b := by
    have := List.getElem?_drop (xs := q) (i := i) (j := 0)
    rw [hl] at this
    simp only [List.getElem?_cons_zero, Nat.add_zero] at this
    exact (Option.some.inj (this.trans (List.getElem?_eq_getElem hiq))).symm
   have hd1 : q.drop (i + 1) = t := by rw [← List.drop_drop, hl]; rfl
   have hpk : attr_reader_peek.f (B q) (i : Int) false = some (b.toNat : Int) := by
    unfold attr_reader_peek.f
    rw [if_pos (by rw [B_size]; omega), if_pos (by omega), bt_B q i hiq, hb]
   have start : ∀ k, attr_reader_quoted.l0 (k + 1) (B q) (i : Int) false acc = (if (b.toNat : Int) = 34 then some (⟨acc.toArray⟩, B q, wrap64 ((i : Int) + 1), false)
     else if (b.toNat : Int) = 10 then some (⟨#[]⟩, B q, (i : Int), true)
     else if (b.toNat : Int) = 92 then
      (attr_reader_peek.f (B q) (wrap64 ((i : Int) + 1)) false).bind fun c2 =>
       if wrap64 ((i : Int) + 1) < ((B q).size : Int) then
        if c2 = 110 then (if acc.length < 140737488355328 then attr_reader_quoted.l0 k (B q) (wrap64 (wrap64 ((i : Int) + 1) + 1)) false (acc ++ [10]) else none)
        else if c2 = 34 then (if acc.length < 140737488355328 then attr_reader_quoted.l0 k (B q) (wrap64 (wrap64 ((i : Int) + 1) + 1)) false (acc ++ [34]) else none)
        else if c2 = 92 then (if acc.length < 140737488355328 then attr_reader_quoted.l0 k (B q) (wrap64 (wrap64 ((i : Int) + 1) + 1)) false (acc ++ [92]) else none)
        else some (⟨#[]⟩, B q, wrap64 ((i : Int) + 1), true)
       else some (⟨#[]⟩, B q, wrap64 ((i : Int) + 1), true)
     else if acc.length < 140737488355328 then attr_reader_quoted.l0 k (B q) (wrap64 ((i : Int) + 1)) false (acc ++ [UInt8.ofNat (b.toNat : Int).toNat]) else none) := by
    intro k
    rw [attr_reader_quoted.l0, if_neg (by simp), if_pos (by rw [B_size]; omega), hpk, Option.bind_some]
   have n34 : ((b.toNat : Int) = 34) ↔ b = 34 := ⟨fun e => toNat_inj (n := 34) (by omega) e, fun e => by subst e; rfl⟩
   have n10 : ((b.toNat : Int) = 10) ↔ b = 10 := ⟨fun e => toNat_inj (n := 10) (by omega) e, fun e => by subst e; rfl⟩
   have n92 : ((b.toNat : Int) = 92) ↔ b = 92 := ⟨fun e => toNat_inj (n := 92) (by omega) e, fun e => by subst e; rfl⟩
   have hback : UInt8.ofNat (b.toNat : Int).toNat = b := by rw [Int.toNat_natCast]; simp
   rw [hw i (by omega), hback] at start; by_cases h34 : b = 34
   ·
    have hu : unq (b :: t) = some ([], 1) := by cases t <;> simp [unq, h34]
    refine ⟨fun v n h => ?_, fun h => by rw [hu] at h; cases h⟩
    rw [hu] at h; cases h; rw [List.append_nil]
    exact Ev.succ (g := fun _ => some (B acc, B q, ((i + 1 : Nat) : Int), false)) (Ev.const rfl) (fun k => by rw [start, if_pos (n34.2 h34)]; rfl)
   by_cases h10 : b = 10
   ·
    have hu : unq (b :: t) = none := by cases t <;> simp [unq, h34, h10]
    refine ⟨fun v n h => (by rw [hu] at h; cases h), fun _ => ⟨(i : Int), Ev.succ (g := fun _ => some (⟨#[]⟩, B q, (i : Int), true)) (Ev.const rfl) (fun k => by rw [start, if_neg (fun e => h34 (n34.1 e)), if_pos (n10.2 h10)])⟩⟩
   by_cases h92 : b = 92; rotate_left
   ·
    have hs : ∀ k, attr_reader_quoted.l0 (k + 1) (B q) (i : Int) false acc = attr_reader_quoted.l0 k (B q) ((i + 1 : Nat) : Int) false (acc ++ [b]) := fun k => by
     rw [start, if_neg (fun e => h34 (n34.1 e)), if_neg (fun e => h10 (n10.1 e)), if_neg (fun e => h92 (n92.1 e)), if_pos (by omega)]
    have hu : unq (b :: t) = (unq t).map (fun x => (b :: x.1, x.2 + 1)) := by
     cases t with
     | nil => simp [unq, h34]
     | cons c t => rw [unq, if_neg h34, if_neg h10, if_neg h92]
    have ih := quoted_l0 q hq t (i + 1) (acc ++ [b]) hd1 (by omega) (by simp; omega)
    refine ⟨fun v n h => ?_, fun h => ?_⟩
    rotate_left
    ·
     rw [hu] at h
     obtain ⟨j, hj⟩ := ih.2 (by cases h' : unq t with | none => rfl | some y => rw [h'] at h; cases h)
     exact ⟨j, Ev.succ hj hs⟩
    rw [hu] at h
    obtain ⟨⟨v1, n1⟩, h1, h2⟩ := Option.map_eq_some_iff.1 h
    cases h2
    have := ih.1 v1 n1 h1
    rw [List.append_assoc, show i + 1 + n1 = i + (n1 + 1) by omega] at this
    exact Ev.succ this hs
   match t, hd1, hlen with
   | [], hd1, hlen =>
    have hu : unq [b] = none := by simp [unq, h34]
    simp only [List.length_nil] at hlen
    have hp2 : attr_reader_peek.f (B q) ((i + 1 : Nat) : Int) false = some 0 := by
     unfold attr_reader_peek.f
     rw [if_neg (by rw [B_size]; omega)]
    refine ⟨fun v n h => (by rw [hu] at h; cases h), fun _ => ⟨((i + 1 : Nat) : Int), Ev.succ (g := fun _ => some (⟨#[]⟩, B q, ((i + 1 : Nat) : Int), true)) (Ev.const rfl) (fun k => by rw [start, if_neg (fun e => h34 (n34.1 e)), if_neg (fun e => h10 (n10.1 e)), if_pos (n92.2 h92), hp2, Option.bind_some, if_neg (by rw [B_size]; omega)])⟩⟩
   | c :: t, hd1, hlen =>
    simp only [List.length_cons] at hlen
    have hi1 : i + 1 < q.length := by omega
    have hc : q[i + 1] = c := by
     have := List.getElem?_drop (xs := q) (i := i + 1) (j := 0)
     rw [hd1] at this
     simp only [List.getElem?_cons_zero, Nat.add_zero] at this
     exact (Option.some.inj (this.trans (List.getElem?_eq_getElem hi1))).symm
    have hd2 : q.drop (i + 2) = t := by rw [show i + 2 = (i + 1) + 1 from rfl, ← List.drop_drop, hd1]; rfl
    have hp2 : attr_reader_peek.f (B q) ((i + 1 : Nat) : Int) false = some (c.toNat : Int) := by
     unfold attr_reader_peek.f
     rw [if_pos (by rw [B_size]; omega), if_pos (by omega), bt_B q (i + 1) hi1, hc]
    rw [hp2] at start
    simp only [Option.bind_some, if_pos (show ((i + 1 : Nat) : Int) < ((B q).size : Int) by rw [B_size]; omega), if_pos (show acc.length < 140737488355328 by omega), hw (i + 1) (by omega), if_neg (fun e => h34 (n34.1 e)), if_neg (fun e => h10 (n10.1 e)), if_pos (n92.2 h92)] at start
    have m110 : ((c.toNat : Int) = 110) ↔ c = 110 := ⟨fun e => toNat_inj (n := 110) (by omega) e, fun e => by subst e; rfl⟩
    have m34 : ((c.toNat : Int) = 34) ↔ c = 34 := ⟨fun e => toNat_inj (n := 34) (by omega) e, fun e => by subst e; rfl⟩
    have m92 : ((c.toNat : Int) = 92) ↔ c = 92 := ⟨fun e => toNat_inj (n := 92) (by omega) e, fun e => by subst e; rfl⟩
    have ih := fun x : UInt8 => quoted_l0 q hq t (i + 2) (acc ++ [x]) hd2 (by omega) (by simp; omega)
    have fin : ∀ x : UInt8, unq (b :: c :: t) = (unq t).map (fun y => (x :: y.1, y.2 + 2)) → (∀ k, attr_reader_quoted.l0 (k + 1) (B q) (i : Int) false acc = attr_reader_quoted.l0 k (B q) ((i + 1 + 1 : Nat) : Int) false (acc ++ [x])) →
      (∀ v n, unq (b :: c :: t) = some (v, n) → Ev (fun k => attr_reader_quoted.l0 k (B q) (i : Int) false acc) (B (acc ++ v), B q, ((i + n : Nat) : Int), false)) ∧
      (unq (b :: c :: t) = none → ∃ j : Int, Ev (fun k => attr_reader_quoted.l0 k (B q) (i : Int) false acc) (⟨#[]⟩, B q, j, true)) := by
     intro x hu hs
     refine ⟨fun v n h => ?_, fun h => ?_⟩
     rotate_left
     ·
      rw [hu] at h
      obtain ⟨j, hj⟩ := (ih x).2 (by cases h' : unq t with | none => rfl | some y => rw [h'] at h; cases h)
      exact ⟨j, Ev.succ hj hs⟩
     rw [hu] at h
     obtain ⟨⟨v1, n1⟩, h1, h2⟩ := Option.map_eq_some_iff.1 h
     cases h2
     have := (ih x).1 v1 n1 h1
     rw [List.append_assoc, show i + 2 + n1 = i + (n1 + 2) by omega] at this
     exact Ev.succ this hs
    by_cases c1 : c = 110
    · exact fin 10 (by rw [unq, if_neg h34, if_neg h10, if_pos h92, if_pos c1]) (fun k => by rw [start, if_pos (m110.2 c1)])
    by_cases c2 : c = 34
    · exact fin 34 (by rw [unq, if_neg h34, if_neg h10, if_pos h92, if_neg c1, if_pos c2]) (fun k => by rw [start, if_neg (fun e => c1 (m110.1 e)), if_pos (m34.2 c2)])
    by_cases c3 : c = 92
    · exact fin 92 (by rw [unq, if_neg h34, if_neg h10, if_pos h92, if_neg c1, if_neg c2, if_pos c3]) (fun k => by rw [start, if_neg (fun e => c1 (m110.1 e)), if_neg (fun e => c2 (m34.1 e)), if_pos (m92.2 c3)])
    have hu : unq (b :: c :: t) = none := by rw [unq, if_neg h34, if_neg h10, if_pos h92, if_neg c1, if_neg c2, if_neg c3]
    refine ⟨fun v n h => (by rw [hu] at h; cases h), fun _ => ⟨((i + 1 : Nat) : Int), Ev.succ (g := fun _ => some (⟨#[]⟩, B q, ((i + 1 : Nat) : Int), true)) (Ev.const rfl) (fun k => by rw [start, if_neg (fun e => c1 (m110.1 e)), if_neg (fun e => c2 (m34.1 e)), if_neg (fun e => c3 (m92.1 e))])⟩⟩
termination_by l => l.length
def unquoteL (q : List UInt8) : Option (List UInt8) := match q with
  | 34 :: l => (match unq l with | some (v, n) => if n = l.length then some v else none | none => none)
  | _ => none
theorem need_at (l : List UInt8) (hl : l.length ≤ 100000) : attr_reader_need.f (B (34 :: l)) 0 false (⟨#[34]⟩ : ByteArray) = some (B (34 :: l), 1, false) := by
 unfold attr_reader_need.f attr_reader_take.f
 rw [if_neg (by simp), if_pos (by omega), if_pos (by omega)]
 have e : (B (34 :: l)).extract (0 : Int).toNat (B (34 :: l)).size = B (34 :: l) := B_drop (34 :: l) 0
 rw [e]
 have hp := hasPrefix_B (34 :: l) [34] (by simp only [List.length_cons]; omega)
 have h1 : ([34] : List UInt8).isPrefixOf (34 :: l) = true := pre_app [34] l
 rw [h1] at hp
 show ((strings_HasPrefix.f (B (34 :: l)) (B [34])).bind _).bind _ = _
 have hw1 : wrap64 (0 + ((⟨#[34]⟩ : ByteArray).size : Int)) = 1 := by
  show wrap64 (0 + 1) = 1
  rw [wrap_small (by omega) (by omega)]; rfl
 rw [hp, Option.bind_some, if_pos rfl, hw1, Option.bind_some, if_pos rfl]
theorem need_no (q : List UInt8) (hl : q.length ≤ 100000) (h : ∀ l, q ≠ 34 :: l) : attr_reader_need.f (B q) 0 false (⟨#[34]⟩ : ByteArray) = some (B q, 0, true) := by
 unfold attr_reader_need.f attr_reader_take.f
 rw [if_neg (by simp), if_pos (by omega), if_pos (by omega)]
 have e : (B q).extract (0 : Int).toNat (B q).size = B q := B_drop q 0
 rw [e]; have hp := hasPrefix_B q [34] (by omega)
 have h1 : ([34] : List UInt8).isPrefixOf q = false := by
  cases q with
  | nil => rfl
  | cons b l =>
   refine pre_ne [] l (fun e => h l ?_)
   rw [← e]
 rw [h1] at hp
 show ((strings_HasPrefix.f (B q) (B [34])).bind _).bind _ = _
 rw [hp, Option.bind_some, if_neg (by simp), Option.bind_some, if_neg (by simp)]
theorem unquote_ev (q : List UInt8) (hq : q.length ≤ 70000) : Ev (fun k => attr_Unquote.f k (B q)) (match unquoteL q with | some v => (B v, 0) | none => (⟨#[]⟩, 3)) := by
 unfold attr_Unquote.f attr_reader_quoted.f
 by_cases h : ∃ l, q = 34 :: l; rotate_left
 ·
  have hne : ∀ l, q ≠ 34 :: l := fun l e => h ⟨l, e⟩
  rw [need_no q (by omega) hne]; simp only [Option.bind_some]
  refine Ev.bind (v := ((⟨#[]⟩ : ByteArray), B q, (0 : Int), true)) (Ev.succ (g := fun _ => some ((⟨#[]⟩ : ByteArray), B q, (0 : Int), true)) (Ev.const rfl) (fun k => by rw [attr_reader_quoted.l0, if_pos rfl])) (Ev.const ?_)
  have hu : unquoteL q = none := by
   unfold unquoteL
   split
   rotate_left
   · rfl
   rename_i l; exact absurd rfl (hne l)
  rw [hu]; rfl
 obtain ⟨l, rfl⟩ := h
 rw [need_at l (by simp only [List.length_cons] at hq; omega)]
 simp only [Option.bind_some]; have hl := quoted_l0 (34 :: l) (by omega) l 1 [] rfl (by simp) (by simp)
 cases hu : unq l with
 | none =>
  obtain ⟨j, hj⟩ := hl.2 hu
  refine Ev.bind hj (Ev.const ?_)
  simp only [unquoteL, hu]; rfl
 | some x =>
  obtain ⟨v, n⟩ := x
  have hn := unq_len l v n hu
  refine Ev.bind (hl.1 v n hu) (Ev.const ?_)
  simp only [unquoteL, hu, Bool.false_eq_true, if_false, List.nil_append]; by_cases hnl : n = l.length
  · rw [if_pos hnl, if_neg (by rw [B_size, List.length_cons]; omega)]
  rw [if_neg hnl, if_pos (by rw [B_size, List.length_cons]; omega)]
theorem unquote_esc (v : List UInt8) : unquoteL (34 :: (escL v ++ [34])) = some v := by
 simp only [unquoteL, unq_esc [] v]
 rw [if_pos (by simp)]
theorem unquote_len (q v : List UInt8) (h : unquoteL q = some v) : v.length ≤ q.length := by
 unfold unquoteL at h
 split at h
 rotate_left
 · cases h
 rename_i l
 cases hu : unq l with
 | none => rw [hu] at h; cases h
 | some x =>
  obtain ⟨w, n⟩ := x
  have := unq_len l w n hu
  rw [hu] at h
  simp only at h
  split at h
  rotate_left
  · cases h
  cases h; simp only [List.length_cons]; omega
end Go.Proofs.YtkedidjjhhjdbaaGreatDoor.Pr
end
section
set_option linter.unusedVariables false
set_option linter.unusedSimpArgs false
namespace Go.Proofs.YtkedidjjhhjdbaaGreatDoor.Pr
open Go.RowKit Go.Proofs.YtkedidjjhhjdbaaGreatDoorW.PrintWords Go.Proofs.YtkedidjjhhjdbaaGreatDoorW.PrintLast Go.Proofs.YtkedidjjhhjdbaaGreatDoorW.PrintMore
def endL : List UInt8 → Option Nat
  | [] => none
  | [b] => if b = 34 then some 0 else none
  | b :: c :: l => if b = 34 then some 0 else if b = 92 then (endL l).map (· + 2) else (endL (c :: l)).map (· + 1)
def endAt (q : List UInt8) (n : Nat) : Option Nat := (endL (q.drop n)).map (· + n)
theorem endL_lt : ∀ (l : List UInt8) (p : Nat), endL l = some p → p < l.length
 | [], p, h => by cases h
 | [b], p, h => by
  rw [endL] at h
  split at h
  rotate_left
  · cases h
  cases h; simp
 | b :: c :: l, p, h => by
  rw [endL] at h
  split at h
  · cases h; simp
  split at h
  ·
   obtain ⟨p1, h1, rfl⟩ := Option.map_eq_some_iff.1 h
   have := endL_lt l p1 h1
   simp only [List.length_cons]; omega
  obtain ⟨p1, h1, rfl⟩ := Option.map_eq_some_iff.1 h
  have := endL_lt (c :: l) p1 h1
  simp only [List.length_cons] at *; omega
theorem endAt_lt {q : List UInt8} {n p : Nat} (h : endAt q n = some p) : n ≤ p ∧ p < q.length := by
 unfold endAt at h
 obtain ⟨p1, h1, rfl⟩ := Option.map_eq_some_iff.1 h
 have := endL_lt _ _ h1
 rw [List.length_drop] at this; omega
theorem endAt_past {q : List UInt8} {n : Nat} (h : q.length ≤ n) : endAt q n = none := by
 unfold endAt
 rw [List.drop_of_length_le h]; rfl
theorem endAt_hit {q : List UInt8} {n : Nat} (h : n < q.length) (hb : q[n] = 34) : endAt q n = some n := by
 unfold endAt
 rw [List.drop_eq_getElem_cons h, hb]
 cases q.drop (n + 1) <;> simp [endL]
theorem endAt_esc {q : List UInt8} {n : Nat} (h : n < q.length) (hb : q[n] = 92) : endAt q n = endAt q (n + 2) := by
 unfold endAt
 rw [List.drop_eq_getElem_cons h, hb]; by_cases h1 : n + 1 < q.length; rotate_left
 ·
  rw [List.drop_of_length_le (show q.length ≤ n + 1 by omega), List.drop_of_length_le (show q.length ≤ n + 2 by omega)]
  rfl
 rw [List.drop_eq_getElem_cons h1, endL, if_neg (by decide), if_pos rfl]
 cases endL (q.drop (n + 1 + 1)) with
 | none => rfl
 | some p => show some (p + 2 + n) = some (p + (n + 2)); congr 1; omega
theorem endAt_next {q : List UInt8} {n : Nat} (h : n < q.length) (hb : q[n] ≠ 34) (hc : q[n] ≠ 92) : endAt q n = endAt q (n + 1) := by
 unfold endAt
 rw [List.drop_eq_getElem_cons h]; by_cases h1 : n + 1 < q.length; rotate_left
 ·
  rw [List.drop_of_length_le (show q.length ≤ n + 1 by omega), show endL [q[n]] = none by rw [endL, if_neg hb]]
  rfl
 rw [List.drop_eq_getElem_cons h1, endL, if_neg hb, if_neg hc]
 cases endL (q[n + 1] :: q.drop (n + 1 + 1)) with
 | none => rfl
 | some p => show some (p + 1 + n) = some (p + (n + 1)); congr 1; omega
theorem endL_esc (rest : List UInt8) : ∀ v : List UInt8, endL (escL v ++ (34 :: rest)) = some (escL v).length
 | [] => by
  show endL (34 :: rest) = _
  cases rest <;> simp [endL, escL]
 | b :: v => by
  have ih := endL_esc rest v
  have e : escL (b :: v) = esc b ++ escL v := by simp [escL]
  rw [e, List.append_assoc]
  unfold esc
  by_cases h10 : b = 10
  ·
   rw [if_pos h10]
   show endL (92 :: 110 :: (escL v ++ 34 :: rest)) = _
   rw [endL, if_neg (by decide), if_pos rfl, ih]
   simp
  rw [if_neg h10]; by_cases h92 : b = 92
  ·
   rw [if_pos h92]
   show endL (92 :: 92 :: (escL v ++ 34 :: rest)) = _
   rw [endL, if_neg (by decide), if_pos rfl, ih]
   simp
  rw [if_neg h92]; by_cases h34 : b = 34
  ·
   rw [if_pos h34]
   show endL (92 :: 34 :: (escL v ++ 34 :: rest)) = _
   rw [endL, if_neg (by decide), if_pos rfl, ih]
   simp
  rw [if_neg h34]
  show endL (b :: (escL v ++ 34 :: rest)) = _
  obtain ⟨c, l, hcl⟩ : ∃ c l, escL v ++ 34 :: rest = c :: l := by
   cases h : escL v ++ 34 :: rest with
   | nil => simp at h
   | cons c l => exact ⟨c, l, rfl⟩
  rw [hcl] at ih ⊢
  rw [endL, if_neg h34, if_neg h92, ih]
  simp
def trim2 (t : List UInt8) : List UInt8 := if ([44, 32] : List UInt8).isPrefixOf t = true then t.drop 2 else t
theorem trim2_len (t : List UInt8) : (trim2 t).length ≤ t.length := by
 unfold trim2
 split
 rotate_left
 · exact Nat.le_refl _
 rw [List.length_drop]; omega
section
variable (x4 : List S33) (op : Int) (key z : ByteArray)
theorem j5_end (q : List UInt8) (hq : q.length ≤ 70000) (p : Nat) (hp : p < q.length) (h4 : x4.length < 3518437208883) :
  (unquoteL (q.take (p + 1)) = none → Ev (fun k => policy_scope.j5 k x4 (B q) (p : Int) false op key z) (([] : List S33), false)) ∧
  (∀ v r, unquoteL (q.take (p + 1)) = some v → Ev (fun k => policy_scope.l0 k (x4 ++ [(⟨op, key, B v⟩ : S33)]) (B (trim2 (q.drop (p + 1))))) r → Ev (fun k => policy_scope.j5 k x4 (B q) (p : Int) false op key z) r) := by
 have hw := wrap_next p 100000 (by omega) (by omega)
 have hu := unquote_ev (q.take (p + 1)) (by rw [List.length_take]; omega)
 have hs : ∀ k, policy_scope.j5 (k + 1) x4 (B q) (p : Int) false op key z = ((attr_Unquote.f k (B (q.take (p + 1)))).bind fun bt174 => (if bt174.2 = 0 then (policy_scope.l0 k (x4 ++ [(⟨op, key, bt174.1⟩ : S33)]) (B (trim2 (q.drop (p + 1))))) else (some (([] : List S33), false)))) := by
  intro k
  have ht := trimPrefix_B (q.drop (p + 1)) [44, 32] (by rw [List.length_drop]; omega)
  rw [policy_scope.j5, if_neg (by simp), if_neg (by rw [B_size]; omega), hw, if_pos (by omega), if_pos (by rw [B_size]; omega), Int.toNat_natCast, B_take, B_drop]
  simp only [if_pos h4]
  show ((attr_Unquote.f k (B (q.take (p + 1)))).bind fun bt174 => (if bt174.2 = 0 then ((strings_TrimPrefix.f (B (q.drop (p + 1))) (B [44, 32])).bind fun t179 => (policy_scope.l0 k (x4 ++ [(⟨op, key, bt174.1⟩ : S33)]) t179)) else (some (([] : List S33), false)))) = _
  rw [ht]; rfl
 refine ⟨fun h => ?_, fun v r h hr => ?_⟩
 ·
  rw [h] at hu
  exact Ev.succ (Ev.bind hu (Ev.const rfl)) hs
 rw [h] at hu
 refine Ev.succ (Ev.bind hu ?_) hs
 simp only [if_true]; exact hr
theorem l2_ev (q : List UInt8) (hq : q.length ≤ 70000) : ∀ (N n : Nat), q.length < n + N → n ≤ q.length + 1 → ∀ r : List S33 × Bool,
  (∀ p, endAt q n = some p → Ev (fun k => policy_scope.j5 k x4 (B q) (p : Int) false op key z) r) → (endAt q n = none → r = (([] : List S33), false)) → Ev (fun k => policy_scope.l2 k x4 (B q) (n : Int) op key z) r
 | 0, n, hN, hn, r, h1, h2 => by
  have hr := h2 (endAt_past (by omega)); subst hr
  refine Ev.succ (g := fun k => policy_scope.j5 k x4 (B q) (n : Int) false op key z) ?_ (fun k => by rw [policy_scope.l2, if_neg (by rw [B_size]; omega)])
  exact Ev.succ (g := fun _ => some (([] : List S33), false)) (Ev.const rfl) (fun k => by rw [policy_scope.j5, if_neg (by simp), if_pos (by rw [B_size]; omega)])
 | N + 1, n, hN, hn, r, h1, h2 => by
  by_cases hlt : n < q.length; rotate_left
  ·
   have hr := h2 (endAt_past (by omega)); subst hr
   refine Ev.succ (g := fun k => policy_scope.j5 k x4 (B q) (n : Int) false op key z) ?_ (fun k => by rw [policy_scope.l2, if_neg (by rw [B_size]; omega)])
   exact Ev.succ (g := fun _ => some (([] : List S33), false)) (Ev.const rfl) (fun k => by rw [policy_scope.j5, if_neg (by simp), if_pos (by rw [B_size]; omega)])
  have hb := bt_B q n hlt; have hw := wrap_next n 100000 (by omega) (by omega); have hw2 := wrap_next (n + 1) 100000 (by omega) (by omega)
  have m34 : ((q[n].toNat : Int) = 34) ↔ q[n] = 34 := ⟨fun e => toNat_inj (n := 34) (by omega) e, fun e => by rw [e]; rfl⟩
  have m92 : ((q[n].toNat : Int) = 92) ↔ q[n] = 92 := ⟨fun e => toNat_inj (n := 92) (by omega) e, fun e => by rw [e]; rfl⟩
  by_cases c34 : q[n] = 34
  ·
   refine Ev.succ (h1 n (endAt_hit hlt c34)) (fun k => ?_)
   rw [policy_scope.l2, if_pos (by rw [B_size]; omega), if_pos (by omega), hb]
   have : ((q[n].toNat : Int) != 34) = false := by rw [bne_eq_false_iff_eq]; exact m34.2 c34
   rw [this]
  refine Ev.succ (g := fun k => policy_scope.j5 k x4 (B q) (n : Int) true op key z) ?_ (fun k => by
   rw [policy_scope.l2, if_pos (by rw [B_size]; omega), if_pos (by omega), hb]
   have : ((q[n].toNat : Int) != 34) = true := by rw [bne_iff_ne]; exact fun e => c34 (m34.1 e)
   rw [this])
  by_cases c92 : q[n] = 92; rotate_left
  ·
   rw [endAt_next hlt c34 c92] at h1 h2
   exact Ev.succ (l2_ev q hq N (n + 1) (by omega) (by omega) r h1 h2) (fun k => by rw [policy_scope.j5, if_pos rfl, if_pos (by omega), if_pos (by rw [B_size]; omega), hb, if_neg (fun e => c92 (m92.1 e)), hw])
  rw [endAt_esc hlt c92] at h1 h2
  have h1' : ∀ p, endAt q (n + 2) = some p → _ := h1
  by_cases hn2 : n + 2 ≤ q.length + 1; rotate_left
  · omega
  exact Ev.succ (l2_ev q hq N (n + 2) (by omega) hn2 r h1 h2) (fun k => by rw [policy_scope.j5, if_pos rfl, if_pos (by omega), if_pos (by rw [B_size]; omega), hb, if_pos (m92.2 c92), hw, hw2])
end
def sg : Nat → List UInt8
  | 1 => [61]
  | 2 => [33, 61]
  | 3 => [61, 126]
  | 4 => [33, 126]
  | _ => []
def opAt (t : List UInt8) : Nat := if (sg 1 ++ [34]).isPrefixOf t = true then 1 else if (sg 2 ++ [34]).isPrefixOf t = true then 2 else if (sg 3 ++ [34]).isPrefixOf t = true then 3 else if (sg 4 ++ [34]).isPrefixOf t = true then 4 else 0
theorem rd_sg (n : Nat) (h1 : 1 ≤ n) (h4 : n ≤ 4) : rdOf ByteArray.empty ops5 (n : Int) = B (sg n) := by
 have : n = 1 ∨ n = 2 ∨ n = 3 ∨ n = 4 := by omega
 rcases this with rfl | rfl | rfl | rfl <;> rfl
theorem sg_len (n : Nat) (h1 : 1 ≤ n) (h4 : n ≤ 4) : 1 ≤ (sg n).length ∧ (sg n).length ≤ 2 := by
 have : n = 1 ∨ n = 2 ∨ n = 3 ∨ n = 4 := by omega
 rcases this with rfl | rfl | rfl | rfl <;> decide
theorem l1_step (x4 : List S33) (l : List UInt8) (hl : l.length ≤ 70000) (i : Nat) (hi : i ≤ l.length) (key z : ByteArray) (n : Nat) (h1 : 1 ≤ n) (h4 : n ≤ 4) (k : Nat) :
  policy_scope.l1 (k + 1) x4 (B l) (i : Int) ops5 5 (n : Int) 0 key z = if (sg n ++ [34]).isPrefixOf (l.drop i) = true then policy_scope.j3 k x4 (B ((l.drop i).drop (sg n).length)) (n : Int) key z else policy_scope.l1 k x4 (B l) (i : Int) ops5 5 ((n + 1 : Nat) : Int) 0 key z := by
 have hs := sg_len n h1 h4
 have h5 : ops5.length = 5 := rfl
 have hp := hasPrefix_B (l.drop i) (sg n ++ [34]) (by rw [List.length_drop]; omega)
 rw [policy_scope.l1, if_pos (by omega), if_pos (by omega), if_pos (by rw [h5]; omega), rd_sg n h1 h4, if_neg (by rw [B_toList]; intro e; rw [e] at hs; simp at hs), if_pos (by omega), if_pos (by rw [B_size]; omega), if_pos (by rw [B_size]; omega), Int.toNat_natCast, B_drop,
  show B (sg n) ++ (⟨#[34]⟩ : ByteArray) = B (sg n ++ [34]) from B_app (sg n) [34], hp, Option.bind_some]
 by_cases h : (sg n ++ [34]).isPrefixOf (l.drop i) = true; rotate_left
 · rw [if_neg h, if_neg h, wrap_next n 100 (by omega) (by omega)]
 have hlen := pre_len h; rw [List.length_append, List.length_drop, List.length_singleton] at hlen
 rw [if_pos h, if_pos h, B_size, show (i : Int) + ((sg n).length : Int) = ((i + (sg n).length : Nat) : Int) by omega, wrap_small (by omega) (by omega), if_pos (by omega), if_pos (by rw [B_size]; omega), Int.toNat_natCast, B_drop, List.drop_drop]
theorem scope_op (x4 : List S33) (l : List UInt8) (hl : l.length ≤ 70000) (i : Nat) (hi : i ≤ l.length) (r : List S33 × Bool)
  (h0 : opAt (l.drop i) = 0 → r = (([] : List S33), false))
  (h1 : opAt (l.drop i) ≠ 0 → Ev (fun k => policy_scope.l2 k x4 (B ((l.drop i).drop (sg (opAt (l.drop i))).length)) 1 (opAt (l.drop i) : Int) (B (l.take i)) (⟨#[]⟩ : ByteArray)) r) :
  Ev (fun k => policy_scope.j1 k x4 (B l) (i : Int) false) r := by
 have key := l1_step x4 l hl i hi (B (l.take i)) (⟨#[]⟩ : ByteArray)
 have h5 : ops5.length = 5 := rfl
 refine Ev.succ (g := fun k => policy_scope.l1 k x4 (B l) (i : Int) ops5 5 0 0 (B (l.take i)) (⟨#[]⟩ : ByteArray)) ?_ (fun k => by
  rw [policy_scope.j1, if_neg (by simp), if_pos (by omega), if_pos (by rw [B_size]; omega), Option.bind_some, Int.toNat_natCast, B_take]
  rfl)
 refine Ev.succ (g := fun k => policy_scope.l1 k x4 (B l) (i : Int) ops5 5 ((1 : Nat) : Int) 0 (B (l.take i)) (⟨#[]⟩ : ByteArray)) ?_ (fun k => by
  rw [policy_scope.l1, if_pos (by omega), if_pos (by omega), if_pos (by rw [h5]; omega), if_pos (by exact B_toList []), wrap_small (by omega) (by omega)]
  rfl)
 have hit : ∀ n : Nat, 1 ≤ n → opAt (l.drop i) = n → Ev (fun k => policy_scope.j3 k x4 (B ((l.drop i).drop (sg n).length)) (n : Int) (B (l.take i)) (⟨#[]⟩ : ByteArray)) r := by
  intro n hn e
  have := h1 (by omega)
  rw [e] at this
  exact Ev.succ this (fun k => by rw [policy_scope.j3, if_neg (by omega)])
 by_cases p1 : (sg 1 ++ [34]).isPrefixOf (l.drop i) = true
 · exact Ev.succ (hit 1 (by omega) (by unfold opAt; rw [if_pos p1])) (fun k => by rw [key 1 (by omega) (by omega), if_pos p1])
 refine Ev.succ (g := fun k => policy_scope.l1 k x4 (B l) (i : Int) ops5 5 ((1 + 1 : Nat) : Int) 0 (B (l.take i)) (⟨#[]⟩ : ByteArray)) ?_ (fun k => by rw [key 1 (by omega) (by omega), if_neg p1])
 by_cases p2 : (sg 2 ++ [34]).isPrefixOf (l.drop i) = true
 · exact Ev.succ (hit 2 (by omega) (by unfold opAt; rw [if_neg p1, if_pos p2])) (fun k => by rw [key 2 (by omega) (by omega), if_pos p2])
 refine Ev.succ (g := fun k => policy_scope.l1 k x4 (B l) (i : Int) ops5 5 ((2 + 1 : Nat) : Int) 0 (B (l.take i)) (⟨#[]⟩ : ByteArray)) ?_ (fun k => by rw [key 2 (by omega) (by omega), if_neg p2])
 by_cases p3 : (sg 3 ++ [34]).isPrefixOf (l.drop i) = true
 · exact Ev.succ (hit 3 (by omega) (by unfold opAt; rw [if_neg p1, if_neg p2, if_pos p3])) (fun k => by rw [key 3 (by omega) (by omega), if_pos p3])
 refine Ev.succ (g := fun k => policy_scope.l1 k x4 (B l) (i : Int) ops5 5 ((3 + 1 : Nat) : Int) 0 (B (l.take i)) (⟨#[]⟩ : ByteArray)) ?_ (fun k => by rw [key 3 (by omega) (by omega), if_neg p3])
 by_cases p4 : (sg 4 ++ [34]).isPrefixOf (l.drop i) = true
 · exact Ev.succ (hit 4 (by omega) (by unfold opAt; rw [if_neg p1, if_neg p2, if_neg p3, if_pos p4])) (fun k => by rw [key 4 (by omega) (by omega), if_pos p4])
 refine Ev.succ (g := fun k => policy_scope.l1 k x4 (B l) (i : Int) ops5 5 ((4 + 1 : Nat) : Int) 0 (B (l.take i)) (⟨#[]⟩ : ByteArray)) ?_ (fun k => by rw [key 4 (by omega) (by omega), if_neg p4])
 have hr := h0 (by unfold opAt; rw [if_neg p1, if_neg p2, if_neg p3, if_neg p4])
 subst hr
 refine Ev.succ (g := fun k => policy_scope.j3 k x4 (B l) 0 (B (l.take i)) (⟨#[]⟩ : ByteArray)) ?_ (fun k => by rw [policy_scope.l1, if_neg (by omega)])
 exact Ev.succ (g := fun _ => some (([] : List S33), false)) (Ev.const rfl) (fun k => by rw [policy_scope.j3, if_pos rfl])
def stepL (l : List UInt8) : Option (S33 × List UInt8) :=
  if Lib.indexAny l [61, 33] < 1 then none else
  if wordB (l.take (Lib.indexAny l [61, 33]).toNat) = false then none else
  if opAt (l.drop (Lib.indexAny l [61, 33]).toNat) = 0 then none else
  (endAt ((l.drop (Lib.indexAny l [61, 33]).toNat).drop (sg (opAt (l.drop (Lib.indexAny l [61, 33]).toNat))).length) 1).bind fun p =>
    (unquoteL (((l.drop (Lib.indexAny l [61, 33]).toNat).drop (sg (opAt (l.drop (Lib.indexAny l [61, 33]).toNat))).length).take (p + 1))).bind fun v =>
      some ((⟨(opAt (l.drop (Lib.indexAny l [61, 33]).toNat) : Int), B (l.take (Lib.indexAny l [61, 33]).toNat), B v⟩ : S33), trim2 (((l.drop (Lib.indexAny l [61, 33]).toNat).drop (sg (opAt (l.drop (Lib.indexAny l [61, 33]).toNat))).length).drop (p + 1)))
theorem indexAny_le : ∀ (l c : List UInt8), Lib.indexAny l c ≤ l.length
 | [], c => by rw [Lib.indexAny]; simp
 | b :: l, c => by
  have ih := indexAny_le l c; rw [Lib.indexAny, List.length_cons]
  split
  · omega
  split <;> omega
theorem scope_step (l : List UInt8) (hl : l.length ≤ 70000) (hne : l ≠ [125]) (x4 : List S33) (h4 : x4.length < 3518437208883) :
  (stepL l = none → Ev (fun k => policy_scope.l0 k x4 (B l)) (([] : List S33), false)) ∧
  (∀ m t r, stepL l = some (m, t) → Ev (fun k => policy_scope.l0 k (x4 ++ [m]) (B t)) r → Ev (fun k => policy_scope.l0 k x4 (B l)) r) := by
 have hix : strings_IndexAny.f (B l) (⟨#[61, 33]⟩ : ByteArray) = some (Lib.indexAny l [61, 33]) := by
  unfold strings_IndexAny.f
  rw [if_pos ⟨by rw [B_size]; omega, rfl⟩]
  rfl
 have hge := Lib.indexAny_ge [61, 33] l; have hle := indexAny_le l [61, 33]
 unfold stepL
 generalize Lib.indexAny l [61, 33] = ix at hix hge hle
 have start : ∀ k, policy_scope.l0 (k + 1) x4 (B l) = (if ix < 1 then (policy_scope.j1 k x4 (B l) ix true) else (policy_scope.j1 k x4 (B l) ix (!(wordB (l.take ix.toNat))))) := by
  intro k
  rw [policy_scope.l0, if_neg (by rw [B_toList]; exact hne), hix, Option.bind_some]
  by_cases h1 : ix < 1
  · rw [if_pos h1, if_pos h1]
  rw [if_neg h1, if_neg h1, if_pos (by omega), if_pos (by rw [B_size]; omega), B_take, word_B _ (by rw [List.length_take]; omega)]
  rfl
 have bad : Ev (fun k => policy_scope.j1 k x4 (B l) ix true) (([] : List S33), false) := Ev.succ (g := fun _ => some (([] : List S33), false)) (Ev.const rfl) (fun k => by rw [policy_scope.j1, if_pos rfl])
 by_cases h1 : ix < 1
 ·
  rw [if_pos h1]
  exact ⟨fun _ => Ev.succ bad (fun k => by rw [start, if_pos h1]), fun m t r h => by cases h⟩
 obtain ⟨i, rfl⟩ : ∃ i : Nat, ix = (i : Int) := ⟨ix.toNat, by omega⟩
 rw [if_neg h1]
 simp only [Int.toNat_natCast] at start ⊢
 by_cases h2 : wordB (l.take i) = false
 ·
  rw [if_pos h2]
  exact ⟨fun _ => Ev.succ bad (fun k => by rw [start, if_neg h1, h2]; rfl), fun m t r h => by cases h⟩
 rw [if_neg h2]
 have hw : wordB (l.take i) = true := by cases h : wordB (l.take i) with | true => rfl | false => exact absurd h h2
 have go : ∀ r, Ev (fun k => policy_scope.j1 k x4 (B l) (i : Int) false) r → Ev (fun k => policy_scope.l0 k x4 (B l)) r := fun r hr => Ev.succ hr (fun k => by rw [start, if_neg h1, hw]; rfl)
 by_cases h3 : opAt (l.drop i) = 0
 ·
  rw [if_pos h3]
  exact ⟨fun _ => go _ (scope_op x4 l hl i (by omega) _ (fun _ => rfl) (fun h => absurd h3 h)), fun m t r h => by cases h⟩
 rw [if_neg h3]
 have hq : ((l.drop i).drop (sg (opAt (l.drop i))).length).length ≤ 70000 := by rw [List.length_drop, List.length_drop]; omega
 have hop : ∀ r, Ev (fun k => policy_scope.l2 k x4 (B ((l.drop i).drop (sg (opAt (l.drop i))).length)) ((1 : Nat) : Int) (opAt (l.drop i) : Int) (B (l.take i)) (⟨#[]⟩ : ByteArray)) r → Ev (fun k => policy_scope.l0 k x4 (B l)) r :=
  fun r hr => go r (scope_op x4 l hl i (by omega) r (fun h => absurd h h3) (fun _ => hr))
 generalize (l.drop i).drop (sg (opAt (l.drop i))).length = q at hq hop ⊢
 have l2 := l2_ev x4 (opAt (l.drop i) : Int) (B (l.take i)) (⟨#[]⟩ : ByteArray) q hq (q.length + 1) 1 (by omega) (by omega)
 cases he : endAt q 1 with
 | none =>
  rw [Option.bind_none]
  exact ⟨fun _ => hop _ (l2 _ (fun p hp => by rw [he] at hp; cases hp) (fun _ => rfl)), fun m t r h => by cases h⟩
 | some p =>
  have hp := endAt_lt he; have j5 := j5_end x4 (opAt (l.drop i) : Int) (B (l.take i)) (⟨#[]⟩ : ByteArray) q hq p hp.2 h4; rw [Option.bind_some]
  cases hu : unquoteL (q.take (p + 1)) with
  | none =>
   rw [Option.bind_none]
   refine ⟨fun _ => hop _ (l2 _ (fun p' hp' => ?_) (fun _ => rfl)), fun m t r h => by cases h⟩
   rw [he] at hp'
   cases hp'
   exact j5.1 hu
  | some v =>
   rw [Option.bind_some]
   refine ⟨fun h => (by cases h), fun m t r h hr => hop r (l2 r (fun p' hp' => ?_) (fun h => by rw [he] at h; cases h))⟩
   rw [he] at hp'
   cases hp'
   cases h; exact j5.2 v r hu hr
theorem stepL_len {l t : List UInt8} {m : S33} (h : stepL l = some (m, t)) : t.length < l.length ∧ m.f1.size ≤ l.length ∧ m.f2.size ≤ l.length := by
 unfold stepL at h
 have hle := indexAny_le l [61, 33]
 generalize Lib.indexAny l [61, 33] = ix at h hle
 by_cases h1 : ix < 1
 · rw [if_pos h1] at h; cases h
 rw [if_neg h1] at h; by_cases h2 : wordB (l.take ix.toNat) = false
 · rw [if_pos h2] at h; cases h
 rw [if_neg h2] at h; by_cases h3 : opAt (l.drop ix.toNat) = 0
 · rw [if_pos h3] at h; cases h
 rw [if_neg h3] at h
 obtain ⟨p, he, h⟩ := Option.bind_eq_some_iff.1 h
 obtain ⟨v, hu, h⟩ := Option.bind_eq_some_iff.1 h
 cases h; have hp := endAt_lt he; have hv := unquote_len _ _ hu; have ht := trim2_len (((l.drop ix.toNat).drop (sg (opAt (l.drop ix.toNat))).length).drop (p + 1))
 simp only [List.length_drop, List.length_take, B_size] at *
 omega
theorem scope_total : ∀ (N : Nat) (l : List UInt8), l.length ≤ N → l.length ≤ 70000 → ∀ x4 : List S33, x4.length + l.length < 1000000 → (∀ m ∈ x4, m.f1.size ≤ 70000 ∧ m.f2.size ≤ 70000) →
  ∃ r, Ev (fun k => policy_scope.l0 k x4 (B l)) r ∧ r.1.length ≤ x4.length + l.length ∧ ∀ m ∈ r.1, m.f1.size ≤ 70000 ∧ m.f2.size ≤ 70000
 | N, l, hN, hl, x4, hx, hm => by
  by_cases hne : l = [125]
  ·
   subst hne
   exact ⟨(x4, decide ((x4.length : Int) > 0)), Ev.succ (g := fun _ => some (x4, decide ((x4.length : Int) > 0))) (Ev.const rfl) (fun k => by rw [policy_scope.l0, if_pos (by rw [B_toList])]), by show x4.length ≤ _; omega, hm⟩
  have st := scope_step l hl hne x4 (by omega)
  cases hs : stepL l with
  | none => exact ⟨_, st.1 hs, by simp, fun m h => by cases h⟩
  | some y =>
   obtain ⟨m, t⟩ := y
   have hlen := stepL_len hs
   match N, hN with
   | 0, hN => omega
   | N + 1, hN =>
    obtain ⟨r, hr, h1, h2⟩ := scope_total N t (by omega) (by omega) (x4 ++ [m]) (by simp; omega) (fun z hz => by
     rcases List.mem_append.1 hz with hz | hz
     · exact hm z hz
     rw [List.mem_singleton.1 hz]; omega)
    exact ⟨r, st.2 m t r hs hr, by rw [List.length_append, List.length_singleton] at h1; omega, h2⟩
end Go.Proofs.YtkedidjjhhjdbaaGreatDoor.Pr
end
