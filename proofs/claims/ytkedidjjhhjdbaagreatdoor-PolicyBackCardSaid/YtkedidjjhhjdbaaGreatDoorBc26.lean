import Derived.Test.YtkedidjjhhjdbaaGreatDoorBc0
import Derived.Test.YtkedidjjhhjdbaaGreatDoorBc25
import Derived.Test.YtkedidjjhhjdbaaGreatDoorBc20
import Derived.Test.YtkedidjjhhjdbaaGreatDoorBc21
import Derived.Test.YtkedidjjhhjdbaaGreatDoorBc23
import Derived.Test.YtkedidjjhhjdbaaGreatDoorBc22
section
set_option linter.unusedVariables false
set_option linter.unusedSimpArgs false
namespace Go.Proofs.YtkedidjjhhjdbaaGreatDoor.Pr
open Go.RowKit Go.Proofs.YtkedidjjhhjdbaaGreatDoorW.PrintWords Go.Proofs.YtkedidjjhhjdbaaGreatDoorW.PrintLast Go.Proofs.YtkedidjjhhjdbaaGreatDoorW.PrintMore
theorem parse_l0_total (ps : List ByteArray) (hp : ps.length ≤ 100000) (hs : ∀ x ∈ ps, x.size ≤ 65536) : ∀ (n i : Nat), i + n = ps.length → ∀ x5 : List S46, x5.length ≤ 32 → (∀ x ∈ x5, rightR x = 0) →
  ∃ m f e, Ev (fun k => policy_Parse.l0 k x5 ps (ps.length : Int) (i : Int)) (m, f, e) ∧ (f ≠ 0 → m = []) ∧ (f = 0 → m.length ≤ 32 ∧ ∀ x ∈ m, rightR x = 0)
 | 0, i, hin, x5, h5, hr => ⟨x5, 0, 0, Ev.succ (g := fun _ => some (x5, 0, 0)) (Ev.const rfl) (fun k => by rw [policy_Parse.l0, if_neg (by omega)]), fun h => absurd rfl h, fun _ => ⟨h5, hr⟩⟩
 | n + 1, i, hin, x5, h5, hr => by
  have hi : i < ps.length := by omega
  have hw := wrap_next i 200000 (by omega) (by omega); have hpi := hs ps[i] (List.getElem_mem hi); have ih := parse_l0_total ps hp hs n (i + 1) (by omega)
  have skip : ∀ b : Bool, b = true → (∀ k, policy_Parse.l0 (k + 1) x5 ps (ps.length : Int) (i : Int) = policy_Parse.j1 k x5 (i : Int) ps[i] ps (ps.length : Int) (i : Int) b) →
    ∃ m f e, Ev (fun k => policy_Parse.l0 k x5 ps (ps.length : Int) (i : Int)) (m, f, e) ∧ (f ≠ 0 → m = []) ∧ (f = 0 → m.length ≤ 32 ∧ ∀ x ∈ m, rightR x = 0) := by
   intro b hb hstart; subst hb
   obtain ⟨m, f, e, h1, h2⟩ := ih x5 h5 hr
   exact ⟨m, f, e, Ev.succ (g := fun k => policy_Parse.j1 k x5 (i : Int) ps[i] ps (ps.length : Int) (i : Int) true) (Ev.succ h1 (fun k => by rw [policy_Parse.j1, if_pos rfl, hw])) hstart, h2⟩
  by_cases h0 : ps[i].toList = ([] : List UInt8)
  · exact skip true rfl (fun k => by rw [policy_Parse.l0, if_pos (by omega), if_pos (by omega), if_pos (by omega), rdOf_at ps i hi, if_pos h0])
  have hsz : 0 < ps[i].size := Nat.pos_of_ne_zero (fun e => h0 (toList_nil.2 e))
  have hstart : ∀ k, policy_Parse.l0 (k + 1) x5 ps (ps.length : Int) (i : Int) = policy_Parse.j1 k x5 (i : Int) ps[i] ps (ps.length : Int) (i : Int) (bt ps[i] 0 == 35) := fun k => by
   rw [policy_Parse.l0, if_pos (by omega), if_pos (by omega), if_pos (by omega), rdOf_at ps i hi, if_neg h0, if_pos (by omega)]
  by_cases hc : (bt ps[i] 0 == 35) = true
  · exact skip _ hc hstart
  rw [Bool.eq_false_iff.2 hc] at hstart; by_cases hf : (x5.length : Int) ≥ 32
  · exact ⟨[], 7, (i : Int), Ev.succ (g := fun k => policy_Parse.j1 k x5 (i : Int) ps[i] ps (ps.length : Int) (i : Int) false) (Ev.succ (g := fun _ => some ([], 7, (i : Int))) (Ev.const rfl) (fun k => by rw [policy_Parse.j1, if_neg (by simp), if_pos hf])) hstart, fun _ => rfl, fun h => by cases h⟩
  obtain ⟨v, hv⟩ := rule_total ps[i] hpi
  have hj : ∀ k, policy_Parse.j1 (k + 1) x5 (i : Int) ps[i] ps (ps.length : Int) (i : Int) false = ((policy_rule.f k ps[i]).bind fun bt184 => (if bt184.2.2.2.2.2 = true then ((policy_Right.f k bt184.1 bt184.2.1 bt184.2.2.1 bt184.2.2.2.1 bt184.2.2.2.2.1).bind fun t195 => (if t195 = 0 then (policy_Parse.l0 k (x5 ++ [(⟨bt184.1, bt184.2.1, bt184.2.2.1, bt184.2.2.2.1, bt184.2.2.2.2.1⟩ : S46)]) ps (ps.length : Int) ((i + 1 : Nat) : Int)) else (some (([] : List S46), t195, (i : Int))))) else (some (([] : List S46), 110, (i : Int))))) := fun k => by
   rw [policy_Parse.j1, if_neg (by simp), if_neg hf]
   simp only [if_pos (show x5.length < 1759218604441 by omega), hw]
  have fin : ∀ m f e, Ev (fun k => if v.2.2.2.2.2 = true then ((policy_Right.f k v.1 v.2.1 v.2.2.1 v.2.2.2.1 v.2.2.2.2.1).bind fun t195 => (if t195 = 0 then (policy_Parse.l0 k (x5 ++ [(⟨v.1, v.2.1, v.2.2.1, v.2.2.2.1, v.2.2.2.2.1⟩ : S46)]) ps (ps.length : Int) ((i + 1 : Nat) : Int)) else (some (([] : List S46), t195, (i : Int))))) else (some (([] : List S46), 110, (i : Int)))) (m, f, e) →
    Ev (fun k => policy_Parse.l0 k x5 ps (ps.length : Int) (i : Int)) (m, f, e) := fun m f e h =>
   Ev.succ (g := fun k => policy_Parse.j1 k x5 (i : Int) ps[i] ps (ps.length : Int) (i : Int) false) (Ev.succ (Ev.bind (g := fun k bt184 => (if bt184.2.2.2.2.2 = true then ((policy_Right.f k bt184.1 bt184.2.1 bt184.2.2.1 bt184.2.2.2.1 bt184.2.2.2.2.1).bind fun t195 => (if t195 = 0 then (policy_Parse.l0 k (x5 ++ [(⟨bt184.1, bt184.2.1, bt184.2.2.1, bt184.2.2.2.1, bt184.2.2.2.2.1⟩ : S46)]) ps (ps.length : Int) ((i + 1 : Nat) : Int)) else (some (([] : List S46), t195, (i : Int))))) else (some (([] : List S46), 110, (i : Int))))) hv h) hj) hstart
  by_cases hok : v.2.2.2.2.2 = true; rotate_left
  ·
   simp only [if_neg hok] at fin
   exact ⟨[], 110, (i : Int), fin _ _ _ (Ev.const rfl), fun _ => rfl, fun h => by cases h⟩
  simp only [if_pos hok] at fin
  have hright := right_ev v.1 v.2.1 v.2.2.1 v.2.2.2.1 v.2.2.2.2.1; by_cases hz : rightL v.1 v.2.1 v.2.2.1 v.2.2.2.1 v.2.2.2.2.1 = 0; rotate_left
  · refine ⟨[], rightL v.1 v.2.1 v.2.2.1 v.2.2.2.1 v.2.2.2.2.1, (i : Int), fin _ _ _ (Ev.bind hright (by simp only [if_neg hz]; exact Ev.const rfl)), fun _ => rfl, fun h => absurd h hz⟩
  obtain ⟨m, f, e, h1, h2⟩ := ih (x5 ++ [(⟨v.1, v.2.1, v.2.2.1, v.2.2.2.1, v.2.2.2.2.1⟩ : S46)]) (by simp; omega) (fun x hx => by
   rcases List.mem_append.1 hx with hx | hx
   · exact hr x hx
   rw [List.mem_singleton.1 hx]; exact hz)
  refine ⟨m, f, e, fin m f e (Ev.bind hright ?_), h2⟩
  simp only [if_pos hz]; exact h1
theorem parse_total (s : ByteArray) : ∃ m f e, Ev (fun k => policy_Parse.f k s) (m, f, e) ∧ (f ≠ 0 → m = []) ∧ (f = 0 → m.length ≤ 32 ∧ ∀ x ∈ m, rightR x = 0) := by
 unfold policy_Parse.f
 by_cases hs : (s.size : Int) > 65536
 ·
  simp only [if_pos hs]
  exact ⟨[], 4, 0, Ev.const rfl, fun _ => rfl, fun h => by cases h⟩
 simp only [if_neg hs]
 obtain ⟨ps, hps, h1, h2⟩ := split_total s (⟨#[10]⟩ : ByteArray) (by omega) (by decide)
 rw [hps]; simp only [Option.bind_some]
 exact parse_l0_total ps (by omega) (fun x hx => by have := h2 x hx; omega) ps.length 0 (by omega) [] (by simp) (fun x h => by cases h)
theorem comL_mem {b : UInt8} : ∀ {l : List (List UInt8)}, b ∈ comL l → b = 44 ∨ b = 32 ∨ ∃ x ∈ l, b ∈ x
 | [], h => by cases h
 | [x], h => .inr (.inr ⟨x, List.mem_cons_self .., h⟩)
 | x :: y :: r, h => by
  rw [comL] at h
  rcases List.mem_append.1 h with h | h
  · exact .inr (.inr ⟨x, List.mem_cons_self .., h⟩)
  rcases List.mem_append.1 h with h | h
  ·
   rcases List.mem_cons.1 h with h | h
   · exact .inl h
   exact .inr (.inl (List.mem_singleton.1 h))
  rcases comL_mem h with h | h | ⟨z, hz, h⟩
  · exact .inl h
  · exact .inr (.inl h)
  exact .inr (.inr ⟨z, List.mem_cons_of_mem _ hz, h⟩)
theorem escL_no10 (l : List UInt8) : ∀ b ∈ escL l, b ≠ 10 := by
 intro b hb
 unfold escL at hb
 obtain ⟨x, _, hx⟩ := List.mem_flatMap.1 hb
 unfold esc at hx
 split at hx
 ·
  rcases List.mem_cons.1 hx with rfl | hx
  · decide
  rw [List.mem_singleton.1 hx]; decide
 split at hx
 ·
  rcases List.mem_cons.1 hx with rfl | hx
  · decide
  rw [List.mem_singleton.1 hx]; decide
 split at hx
 rotate_left
 ·
  rename_i h10 _ _
  rw [List.mem_singleton.1 hx]; exact h10
 rcases List.mem_cons.1 hx with rfl | hx
 · decide
 rw [List.mem_singleton.1 hx]; decide
theorem mat_no10 (m : S33) (h : MOk m) : ∀ b ∈ matL m, b ≠ 10 := by
 obtain ⟨n, hn, n1, n4, ho, _, _⟩ := op_cases m.f0 h.o1 h.o4
 have hk := key_chars h.ke
 have hs : ∀ b ∈ sg n, b ≠ 10 := by
  have : n = 1 ∨ n = 2 ∨ n = 3 ∨ n = 4 := by omega
  rcases this with rfl | rfl | rfl | rfl <;> decide
 intro b hb
 unfold matL quoL at hb
 rw [ho] at hb
 rcases List.mem_append.1 hb with hb | hb
 ·
  rcases List.mem_append.1 hb with hb | hb
  rotate_left
  · exact hs b hb
  exact (tail_plain b (hk b hb)).2.2.2.2.2.1
 rcases List.mem_cons.1 hb with rfl | hb
 · decide
 rcases List.mem_append.1 hb with hb | hb
 · exact escL_no10 _ b hb
 rw [List.mem_singleton.1 hb]; decide
theorem line_no10 {d : Bool} {kd : Int} {tn : ByteArray} {sc : List S33} {h : List ByteArray} (r : ROk d kd tn sc h) : 10 ∉ lineL d kd tn sc h := by
 have k1 : ∀ b ∈ ([100, 101, 110, 121, 32] : List UInt8), b ≠ 10 := by decide
 have k2 : ∀ b ∈ ([97, 108, 108, 111, 119, 32] : List UInt8), b ≠ 10 := by decide
 have k3 : ∀ b ∈ ([32, 116, 111, 32] : List UInt8), b ≠ 10 := by decide
 have k4 : ∀ b ∈ ([32, 119, 104, 101, 114, 101, 32] : List UInt8), b ≠ 10 := by decide
 have k5 : ∀ b ∈ ([32, 104, 105, 100, 101, 32] : List UInt8), b ≠ 10 := by decide
 have key : ∀ b ∈ lineL d kd tn sc h, b ≠ 10 := by
  intro b hb
  unfold lineL at hb
  rcases List.mem_append.1 hb with hb | hb
  ·
   unfold headL at hb
   split at hb
   · exact k1 b hb
   exact k2 b hb
  rcases List.mem_append.1 hb with hb | hb
  · exact (kind_plain kd b hb).2
  rcases List.mem_append.1 hb with hb | hb
  · exact k3 b hb
  rcases List.mem_append.1 hb with hb | hb
  · exact ((to_plain r).1 b hb).2
  rcases List.mem_append.1 hb with hb | hb
  rotate_left
  ·
   unfold hideL at hb
   split at hb
   · cases hb
   rcases List.mem_append.1 hb with hb | hb
   · exact k5 b hb
   rcases comL_mem hb with rfl | rfl | ⟨x, hx, hb⟩
   · decide
   · decide
   obtain ⟨y, hy, rfl⟩ := List.mem_map.1 hx
   exact (tail_plain b (key_chars (r.hk y hy) b hb)).2.2.2.2.2.1
  unfold whereL at hb
  split at hb
  · cases hb
  rcases List.mem_append.1 hb with hb | hb
  · exact k4 b hb
  unfold matchL at hb
  rcases List.mem_cons.1 hb with rfl | hb
  · decide
  rcases List.mem_append.1 hb with hb | hb
  rotate_left
  · rw [List.mem_singleton.1 hb]; decide
  rcases comL_mem hb with rfl | rfl | ⟨x, hx, hb⟩
  · decide
  · decide
  obtain ⟨m, hm, rfl⟩ := List.mem_map.1 hx
  exact mat_no10 m (r.sm m hm) b hb
 exact fun hb => key 10 hb rfl
theorem line_head (d : Bool) (kd : Int) (tn : ByteArray) (sc : List S33) (h : List ByteArray) : ∃ b t, lineL d kd tn sc h = b :: t ∧ b ≠ 35 := by
 unfold lineL headL
 cases d with
 | true => exact ⟨100, _, rfl, by decide⟩
 | false => exact ⟨97, _, rfl, by decide⟩
theorem prR_ok : ∀ (l : List S46) (i : Int) (acc : List UInt8), (∀ x ∈ l, rightR x = 0) → prR l i acc = (B (acc ++ l.flatMap fun x => lineR x ++ [10]), 0, 0)
 | [], i, acc, _ => by rw [prR, List.flatMap_nil, List.append_nil]; rfl
 | x :: l, i, acc, h => by
  rw [prR, if_pos (h x (List.mem_cons_self ..)), prR_ok l (i + 1) _ (fun y hy => h y (List.mem_cons_of_mem _ hy)), List.flatMap_cons]
  simp only [List.append_assoc]
theorem prR_zero : ∀ (l : List S46) (i : Int) (acc : List UInt8), (prR l i acc).2.1 = 0 → ∀ x ∈ l, rightR x = 0
 | [], _, _, _, x, h => by cases h
 | y :: l, i, acc, h, x, hx => by
  rw [prR] at h; by_cases h0 : rightR y = 0; rotate_left
  · rw [if_neg h0] at h; exact absurd h h0
  rw [if_pos h0] at h
  rcases List.mem_cons.1 hx with rfl | hx
  · exact h0
  exact prR_zero l (i + 1) _ h x hx
theorem printR_zero (l : List S46) (h : (printR l).2.1 = 0) : l.length ≤ 32 ∧ ∀ x ∈ l, rightR x = 0 := by
 unfold printR at h
 by_cases hl : l.length > 32
 · rw [if_pos hl] at h; cases h
 rw [if_neg hl] at h
 exact ⟨by omega, prR_zero l 0 [] h⟩
theorem printR_ok (l : List S46) (hl : l.length ≤ 32) (h : ∀ x ∈ l, rightR x = 0) : printR l = (B (l.flatMap fun x => lineR x ++ [10]), 0, 0) := by
 unfold printR
 rw [if_neg (by omega), prR_ok l 0 [] h, List.nil_append]
theorem parse_l0_back (l : List S46) (hl : l.length ≤ 32) (h : ∀ x ∈ l, rightR x = 0) : ∀ (n i : Nat), i + n = l.length →
  Ev (fun k => policy_Parse.l0 k (l.take i) ((l.map fun x => B (lineR x)) ++ [B []]) (((l.map fun x => B (lineR x)) ++ [B []]).length : Int) (i : Int)) (l, 0, 0)
 | 0, i, hin => by
  have hps : ((l.map fun x => B (lineR x)) ++ [B []]).length = l.length + 1 := by simp
  have hi : i < ((l.map fun x => B (lineR x)) ++ [B []]).length := by omega
  have hw := wrap_next i 200000 (by omega) (by omega)
  have hp : ((l.map fun x => B (lineR x)) ++ [B []])[i] = B [] := by
   rw [List.getElem_append_right (by simp; omega)]
   simp
  rw [List.take_of_length_le (show l.length ≤ i by omega)]
  generalize hPS : (l.map fun x => B (lineR x)) ++ [B []] = ps at hps hi hp ⊢
  refine Ev.succ (g := fun k => policy_Parse.j1 k l (i : Int) ps[i] ps (ps.length : Int) (i : Int) true) ?_ (fun k => by
   rw [policy_Parse.l0, if_pos (by omega), if_pos (by omega), if_pos (by omega), rdOf_at ps i hi, if_pos (by rw [hp]; exact B_toList [])])
  refine Ev.succ (g := fun k => policy_Parse.l0 k l ps (ps.length : Int) ((i + 1 : Nat) : Int)) ?_ (fun k => by rw [policy_Parse.j1, if_pos rfl, hw])
  exact Ev.succ (g := fun _ => some (l, 0, 0)) (Ev.const rfl) (fun k => by rw [policy_Parse.l0, if_neg (by omega)])
 | n + 1, i, hin => by
  have hil : i < l.length := by omega
  have hps : ((l.map fun x => B (lineR x)) ++ [B []]).length = l.length + 1 := by simp
  have hi : i < ((l.map fun x => B (lineR x)) ++ [B []]).length := by omega
  have hw := wrap_next i 200000 (by omega) (by omega)
  have hp : ((l.map fun x => B (lineR x)) ++ [B []])[i] = B (lineR l[i]) := by
   rw [List.getElem_append_left (by simp; omega)]
   simp
  have ih := parse_l0_back l hl h n (i + 1) (by omega); have hz := h l[i] (List.getElem_mem hil); have r := right_ok hz; rw [List.take_succ_eq_append_getElem hil] at ih
  have htl : (l.take i).length = i := by rw [List.length_take]; omega
  generalize hPS : (l.map fun x => B (lineR x)) ++ [B []] = ps at hps hi hp ih ⊢
  obtain ⟨b, t, hbt, hb35⟩ := line_head l[i].f0 l[i].f1 l[i].f2 l[i].f3 l[i].f4
  have hline : lineR l[i] = b :: t := hbt
  have h35 : (bt ps[i] 0 == 35) = false := by
   rw [hp, hline]
   have : bt (B (b :: t)) 0 = (b.toNat : Int) := bt_B (b :: t) 0 (by simp)
   rw [this]
   exact beq_eq_false_iff_ne.2 (fun e => hb35 (toNat_inj (n := 35) (by omega) e))
  refine Ev.succ (g := fun k => policy_Parse.j1 k (l.take i) (i : Int) ps[i] ps (ps.length : Int) (i : Int) false) ?_ (fun k => by
   rw [policy_Parse.l0, if_pos (by omega), if_pos (by omega), if_pos (by omega), rdOf_at ps i hi, if_neg (by rw [hp, B_toList, hline]; simp), if_pos (by rw [hp, B_size, hline, List.length_cons]; omega), h35])
  have hrule := rule_back r; have hright := right_ev l[i].f0 l[i].f1 l[i].f2 l[i].f3 l[i].f4
  have hz' : rightL l[i].f0 l[i].f1 l[i].f2 l[i].f3 l[i].f4 = 0 := hz
  refine Ev.succ (g := fun k => (policy_rule.f k ps[i]).bind fun bt184 => (if bt184.2.2.2.2.2 = true then ((policy_Right.f k bt184.1 bt184.2.1 bt184.2.2.1 bt184.2.2.2.1 bt184.2.2.2.2.1).bind fun t195 => (if t195 = 0 then (policy_Parse.l0 k (l.take i ++ [(⟨bt184.1, bt184.2.1, bt184.2.2.1, bt184.2.2.2.1, bt184.2.2.2.2.1⟩ : S46)]) ps (ps.length : Int) ((i + 1 : Nat) : Int)) else (some (([] : List S46), t195, (i : Int))))) else (some (([] : List S46), 110, (i : Int))))) ?_ (fun k => by
   rw [policy_Parse.j1, if_neg (by simp), if_neg (by omega)]
   simp only [if_pos (show (l.take i).length < 1759218604441 by omega), hw])
  rw [hp]
  refine Ev.bind hrule ?_
  simp only [if_true]
  refine Ev.bind hright ?_
  simp only [if_pos hz']; exact ih
theorem parse_back (l : List S46) (hl : l.length ≤ 32) (h : ∀ x ∈ l, rightR x = 0) (hs : (printR l).1.size ≤ 65536) : Ev (fun k => policy_Parse.f k (printR l).1) (l, 0, 0) := by
 rw [printR_ok l hl h] at hs ⊢
 replace hs : (B (l.flatMap fun x => lineR x ++ [10])).size ≤ 65536 := hs
 show Ev (fun k => policy_Parse.f k (B (l.flatMap fun x => lineR x ++ [10]))) _
 unfold policy_Parse.f
 simp only [if_neg (show ¬ ((B (l.flatMap fun x => lineR x ++ [10])).size : Int) > 65536 by omega)]
 have hsp := split_lines (l.map lineR) (fun x hx => by obtain ⟨y, hy, rfl⟩ := List.mem_map.1 hx; exact line_no10 (right_ok (h y hy))) (by
  rw [List.flatMap_map]; rw [B_size] at hs
  omega)
 rw [List.flatMap_map, List.map_map] at hsp
 have hsp' : strings_Split.f (B (l.flatMap fun x => lineR x ++ [10])) (⟨#[10]⟩ : ByteArray) = some ((l.map fun x => B (lineR x)) ++ [B []]) := hsp
 rw [hsp']; simp only [Option.bind_some]
 exact parse_l0_back l hl h l.length 0 (by omega)
end Go.Proofs.YtkedidjjhhjdbaaGreatDoor.Pr
end
section
set_option linter.unusedVariables false
set_option linter.unusedSimpArgs false
namespace Go.Proofs.YtkedidjjhhjdbaaGreatDoor.Pr
open Go.RowKit Go.Proofs.YtkedidjjhhjdbaaGreatDoorW.PrintWords Go.Proofs.YtkedidjjhhjdbaaGreatDoorW.PrintLast Go.Proofs.YtkedidjjhhjdbaaGreatDoorW.PrintMore
structure BkF (k : Nat) (l : List S46) (s : ByteArray) : Prop where
  pr : ∃ t e n, policy_Print.f k l = some (t, e, n) ∧ (e = 0 → t.size ≤ 65536 → policy_Parse.f k t = some (l, 0, 0))
  rl : belfryref11_Same.f k l l = some true
  pa : ∃ m f n, policy_Parse.f k s = some (m, f, n) ∧ (f ≠ 0 → m = []) ∧ (f = 0 → ∃ t n', policy_Print.f k m = some (t, 0, n') ∧ belfryref11_Same.f k m m = some true ∧ (t.size ≤ 65536 → policy_Parse.f k t = some (m, 0, 0)))
set_option maxHeartbeats 8000000 in
set_option maxRecDepth 100000 in
theorem back_walk (k kk : Nat) (A : Option Addr) (c : Nat) (l : List S46) (s : ByteArray) (w : World) (hr : Kd.C k46 w A l.length l) (hc : l.length ≤ c) (hk : belfrylaw11_known.f kk = some true) (h : BkF k l s) (he : EnvW w) :
  Calls Tryz.prog 4 #[.slice A l.length c, .string s] w fun e w' => e = .returned (.bool true) ∧ Below w.heap.size w w' := by
 have HR := Aside0.mk hr; have HE := Aside0.mk he; have HK := Aside0.mk hk
 obtain ⟨t, e, n0, hpr, hpb⟩ := h.pr
 obtain ⟨m, f, n, hpa, hpm, hpp⟩ := h.pa
 have HT := Aside0.mk hpr; have HTB := Aside0.mk hpb; have HP := Aside0.mk (And.intro hpa (And.intro hpm hpp)); have HL := Aside0.mk h.rl; clear hr he hk h hpr hpb hpa hpm hpp
 go_enter Tryz.func4, Tryz.ntmps4
 go_wp2_with fail
 refine (policy_Print.calls k A c l t e n0 w HR.out hc HT.out HE.out).mono ?_
 rintro e1 w1 ⟨rfl, hb⟩
 have HB := Aside0.mk hb; clear hb HT; by_cases e0 : e = 0; rotate_left
 ·
  have g4 : (e == 0) = false := beq_eq_false_iff_ne.mpr e0
  have g5 : (e != 0) = true := bne_iff_ne.mpr e0
  clear e0 HTB
  go_wp2_with fail
  refine (policy_Parse.calls k s m f n w1 HP.out.1 (env_below HE.out HB.out)).mono ?_
  rintro e wp ⟨um, rfl, hom, hb⟩
  have HOM := Aside0.mk hom
  replace HB := Aside0.mk (below_step HB.out hb)
  clear hom hb
  obtain ⟨AM, cM, rfl⟩ := Kd.S_slice HOM.out
  by_cases f0 : f = 0; rotate_left
  ·
   have g0 : (f != 0) = true := bne_iff_ne.mpr f0
   have g3 : (f == 0) = false := beq_eq_false_iff_ne.mpr f0
   have hm := HP.out.2.1 f0; clear f0 HP HOM; subst hm
   go_wp2_with fail
   refine (known.calls kk wp HK.out (env_below HE.out HB.out)).mono ?_
   rintro e wt ⟨rfl, hb⟩
   replace HB := Aside0.mk (below_step HB.out hb)
   clear hb; go_wp2; go_ret
   exact ⟨rfl, HB.out⟩
  obtain ⟨t2, n2, h1, h2, h3⟩ := HP.out.2.2 f0
  have HT2 := Aside0.mk h1; have HS2 := Aside0.mk h2; have HB2 := Aside0.mk h3; clear h1 h2 h3; subst f0
  go_wp2_with fail
  refine (policy_Print.calls k AM cM m t2 0 n2 wp (Kd.S_reads' HOM.out).2.2 (Kd.S_reads' HOM.out).2.1 HT2.out (env_below HE.out HB.out)).mono ?_
  rintro e wq ⟨rfl, hb⟩
  replace HOM := Aside0.mk (Kd.S_below HOM.out hb)
  replace HB := Aside0.mk (below_step HB.out hb)
  clear hb; by_cases h65 : t2.size ≤ 65536; rotate_left
  ·
   have g1 : decide (65536 < (t2.size : Int)) = true := decide_eq_true (by omega)
   have g2 : decide (65536 < t2.size) = true := decide_eq_true (by omega)
   clear h65 HOM
   go_wp2_with fail
   refine (known.calls kk wq HK.out (env_below HE.out HB.out)).mono ?_
   rintro e wt ⟨rfl, hb⟩
   replace HB := Aside0.mk (below_step HB.out hb)
   clear hb; go_wp2; go_ret
   exact ⟨rfl, HB.out⟩
  have g1 : decide (65536 < (t2.size : Int)) = false := decide_eq_false (by omega)
  have g2 : decide (65536 < t2.size) = false := decide_eq_false (by omega)
  have HQ2 := Aside0.mk (HB2.out h65); clear h65
  go_wp2_with fail
  refine (policy_Parse.calls k t2 m 0 0 wq HQ2.out (env_below HE.out HB.out)).mono ?_
  rintro e wr ⟨un, rfl, hon, hb⟩
  have HON := Aside0.mk hon
  replace HOM := Aside0.mk (Kd.S_below HOM.out hb)
  replace HB := Aside0.mk (below_step HB.out hb)
  clear hon hb
  obtain ⟨AN, cN, rfl⟩ := Kd.S_slice HON.out
  go_wp2_with fail
  refine (belfryref11_Same.calls k AN AM cN cM m m true wr (Kd.S_reads' HON.out).2.2 (Kd.S_reads' HOM.out).2.2 (Kd.S_reads' HON.out).2.1 (Kd.S_reads' HOM.out).2.1 HS2.out).mono ?_
  rintro e ws ⟨rfl, ⟨nd, rfl⟩⟩
  replace HB := Aside0.mk (pw_below_drewN HB.out nd)
  generalize wr.drewN nd = ws at HB ⊢
  clear HOM HON
  go_wp2_with fail
  refine (known.calls kk ws HK.out (env_below HE.out HB.out)).mono ?_
  rintro e wt ⟨rfl, hb⟩
  replace HB := Aside0.mk (below_step HB.out hb)
  clear hb; go_wp2; go_ret
  exact ⟨rfl, HB.out⟩
 by_cases h65 : t.size ≤ 65536; rotate_left
 ·
  have g1 : decide ((t.size : Int) ≤ 65536) = false := decide_eq_false (by omega)
  have g2 : decide (t.size ≤ 65536) = false := decide_eq_false h65
  subst e0; clear h65 HTB
  go_wp2_with fail
  refine (policy_Parse.calls k s m f n w1 HP.out.1 (env_below HE.out HB.out)).mono ?_
  rintro e wp ⟨um, rfl, hom, hb⟩
  have HOM := Aside0.mk hom
  replace HB := Aside0.mk (below_step HB.out hb)
  clear hom hb
  obtain ⟨AM, cM, rfl⟩ := Kd.S_slice HOM.out
  by_cases f0 : f = 0; rotate_left
  ·
   have g0 : (f != 0) = true := bne_iff_ne.mpr f0
   have g3 : (f == 0) = false := beq_eq_false_iff_ne.mpr f0
   have hm := HP.out.2.1 f0; clear f0 HP HOM; subst hm
   go_wp2_with fail
   refine (known.calls kk wp HK.out (env_below HE.out HB.out)).mono ?_
   rintro e wt ⟨rfl, hb⟩
   replace HB := Aside0.mk (below_step HB.out hb)
   clear hb; go_wp2; go_ret
   exact ⟨rfl, HB.out⟩
  obtain ⟨t2, n2, h1, h2, h3⟩ := HP.out.2.2 f0
  have HT2 := Aside0.mk h1; have HS2 := Aside0.mk h2; have HB2 := Aside0.mk h3; clear h1 h2 h3; subst f0
  go_wp2_with fail
  refine (policy_Print.calls k AM cM m t2 0 n2 wp (Kd.S_reads' HOM.out).2.2 (Kd.S_reads' HOM.out).2.1 HT2.out (env_below HE.out HB.out)).mono ?_
  rintro e wq ⟨rfl, hb⟩
  replace HOM := Aside0.mk (Kd.S_below HOM.out hb)
  replace HB := Aside0.mk (below_step HB.out hb)
  clear hb; by_cases h65 : t2.size ≤ 65536; rotate_left
  ·
   have g1 : decide (65536 < (t2.size : Int)) = true := decide_eq_true (by omega)
   have g2 : decide (65536 < t2.size) = true := decide_eq_true (by omega)
   clear h65 HOM
   go_wp2_with fail
   refine (known.calls kk wq HK.out (env_below HE.out HB.out)).mono ?_
   rintro e wt ⟨rfl, hb⟩
   replace HB := Aside0.mk (below_step HB.out hb)
   clear hb; go_wp2; go_ret
   exact ⟨rfl, HB.out⟩
  have g1 : decide (65536 < (t2.size : Int)) = false := decide_eq_false (by omega)
  have g2 : decide (65536 < t2.size) = false := decide_eq_false (by omega)
  have HQ2 := Aside0.mk (HB2.out h65); clear h65
  go_wp2_with fail
  refine (policy_Parse.calls k t2 m 0 0 wq HQ2.out (env_below HE.out HB.out)).mono ?_
  rintro e wr ⟨un, rfl, hon, hb⟩
  have HON := Aside0.mk hon
  replace HOM := Aside0.mk (Kd.S_below HOM.out hb)
  replace HB := Aside0.mk (below_step HB.out hb)
  clear hon hb
  obtain ⟨AN, cN, rfl⟩ := Kd.S_slice HON.out
  go_wp2_with fail
  refine (belfryref11_Same.calls k AN AM cN cM m m true wr (Kd.S_reads' HON.out).2.2 (Kd.S_reads' HOM.out).2.2 (Kd.S_reads' HON.out).2.1 (Kd.S_reads' HOM.out).2.1 HS2.out).mono ?_
  rintro e ws ⟨rfl, ⟨nd, rfl⟩⟩
  replace HB := Aside0.mk (pw_below_drewN HB.out nd)
  generalize wr.drewN nd = ws at HB ⊢
  clear HOM HON
  go_wp2_with fail
  refine (known.calls kk ws HK.out (env_below HE.out HB.out)).mono ?_
  rintro e wt ⟨rfl, hb⟩
  replace HB := Aside0.mk (below_step HB.out hb)
  clear hb; go_wp2; go_ret
  exact ⟨rfl, HB.out⟩
 have HQ := Aside0.mk (HTB.out e0 h65); subst e0
 have g1 : decide ((t.size : Int) ≤ 65536) = true := decide_eq_true (by omega)
 have g2 : decide (t.size ≤ 65536) = true := decide_eq_true h65
 clear h65 HTB
 go_wp2_with fail
 refine (policy_Parse.calls k t l 0 0 w1 HQ.out (env_below HE.out HB.out)).mono ?_
 rintro e w2 ⟨uo, rfl, ho, hb⟩
 have HO := Aside0.mk ho
 replace HB := Aside0.mk (below_step HB.out hb)
 clear ho hb HQ
 obtain ⟨AO, cO, rfl⟩ := Kd.S_slice HO.out
 go_wp2_with fail
 refine (belfryref11_Same.calls k AO A cO c l l true w2 (Kd.S_reads' HO.out).2.2 (Kd.C_below HR.out HB.out) (Kd.S_reads' HO.out).2.1 hc HL.out).mono ?_
 rintro e w3 ⟨rfl, ⟨n3, rfl⟩⟩
 replace HB := Aside0.mk (pw_below_drewN HB.out n3)
 generalize w2.drewN n3 = w3 at HB ⊢; clear HO g1 g2
 go_wp2_with fail
 refine (policy_Parse.calls k s m f n w3 HP.out.1 (env_below HE.out HB.out)).mono ?_
 rintro e wp ⟨um, rfl, hom, hb⟩
 have HOM := Aside0.mk hom
 replace HB := Aside0.mk (below_step HB.out hb)
 clear hom hb
 obtain ⟨AM, cM, rfl⟩ := Kd.S_slice HOM.out
 by_cases f0 : f = 0; rotate_left
 ·
  have g0 : (f != 0) = true := bne_iff_ne.mpr f0
  have g3 : (f == 0) = false := beq_eq_false_iff_ne.mpr f0
  have hm := HP.out.2.1 f0; clear f0 HP HOM; subst hm
  go_wp2_with fail
  refine (known.calls kk wp HK.out (env_below HE.out HB.out)).mono ?_
  rintro e wt ⟨rfl, hb⟩
  replace HB := Aside0.mk (below_step HB.out hb)
  clear hb; go_wp2; go_ret
  exact ⟨rfl, HB.out⟩
 obtain ⟨t2, n2, h1, h2, h3⟩ := HP.out.2.2 f0
 have HT2 := Aside0.mk h1; have HS2 := Aside0.mk h2; have HB2 := Aside0.mk h3; clear h1 h2 h3; subst f0
 go_wp2_with fail
 refine (policy_Print.calls k AM cM m t2 0 n2 wp (Kd.S_reads' HOM.out).2.2 (Kd.S_reads' HOM.out).2.1 HT2.out (env_below HE.out HB.out)).mono ?_
 rintro e wq ⟨rfl, hb⟩
 replace HOM := Aside0.mk (Kd.S_below HOM.out hb)
 replace HB := Aside0.mk (below_step HB.out hb)
 clear hb; by_cases h65 : t2.size ≤ 65536; rotate_left
 ·
  have g1 : decide (65536 < (t2.size : Int)) = true := decide_eq_true (by omega)
  have g2 : decide (65536 < t2.size) = true := decide_eq_true (by omega)
  clear h65 HOM
  go_wp2_with fail
  refine (known.calls kk wq HK.out (env_below HE.out HB.out)).mono ?_
  rintro e wt ⟨rfl, hb⟩
  replace HB := Aside0.mk (below_step HB.out hb)
  clear hb; go_wp2; go_ret
  exact ⟨rfl, HB.out⟩
 have g1 : decide (65536 < (t2.size : Int)) = false := decide_eq_false (by omega)
 have g2 : decide (65536 < t2.size) = false := decide_eq_false (by omega)
 have HQ2 := Aside0.mk (HB2.out h65); clear h65
 go_wp2_with fail
 refine (policy_Parse.calls k t2 m 0 0 wq HQ2.out (env_below HE.out HB.out)).mono ?_
 rintro e wr ⟨un, rfl, hon, hb⟩
 have HON := Aside0.mk hon
 replace HOM := Aside0.mk (Kd.S_below HOM.out hb)
 replace HB := Aside0.mk (below_step HB.out hb)
 clear hon hb
 obtain ⟨AN, cN, rfl⟩ := Kd.S_slice HON.out
 go_wp2_with fail
 refine (belfryref11_Same.calls k AN AM cN cM m m true wr (Kd.S_reads' HON.out).2.2 (Kd.S_reads' HOM.out).2.2 (Kd.S_reads' HON.out).2.1 (Kd.S_reads' HOM.out).2.1 HS2.out).mono ?_
 rintro e ws ⟨rfl, ⟨nd, rfl⟩⟩
 replace HB := Aside0.mk (pw_below_drewN HB.out nd)
 generalize wr.drewN nd = ws at HB ⊢
 clear HOM HON
 go_wp2_with fail
 refine (known.calls kk ws HK.out (env_below HE.out HB.out)).mono ?_
 rintro e wt ⟨rfl, hb⟩
 replace HB := Aside0.mk (below_step HB.out hb)
 clear hb; go_wp2; go_ret
 exact ⟨rfl, HB.out⟩
end Go.Proofs.YtkedidjjhhjdbaaGreatDoor.Pr
end
section
set_option linter.unusedVariables false
set_option linter.unusedSimpArgs false
namespace Go.Proofs.YtkedidjjhhjdbaaGreatDoor.Pr
open Go.RowKit Go.Proofs.YtkedidjjhhjdbaaGreatDoorW.PrintWords Go.Proofs.YtkedidjjhhjdbaaGreatDoorW.PrintLast Go.Proofs.YtkedidjjhhjdbaaGreatDoorW.PrintMore
theorem back_facts (l : List S46) (s : ByteArray) (hs : ∀ x ∈ l, x.f3.length < 3518437208883 ∧ x.f4.length < 8796093022208) : ∃ K, BkF K l s := by
 have hm : ∀ x ∈ l, Small46 x := fun x hx => ⟨by have := hs x hx; omega, by have := hs x hx; omega⟩
 obtain ⟨K1, h1⟩ := print_ev l
 have hb : ∃ K, ∀ k, K ≤ k → (printR l).2.1 = 0 → (printR l).1.size ≤ 65536 → policy_Parse.f k (printR l).1 = some (l, 0, 0) := by
  by_cases h0 : (printR l).2.1 = 0 ∧ (printR l).1.size ≤ 65536; rotate_left
  · exact ⟨0, fun k _ ha hb => absurd ⟨ha, hb⟩ h0⟩
  obtain ⟨ha, hb⟩ := printR_zero l h0.1
  obtain ⟨K, hK⟩ := parse_back l ha hb h0.2
  exact ⟨K, fun k hk _ _ => hK k hk⟩
 obtain ⟨K2, h2⟩ := hb
 obtain ⟨K3, h3⟩ := ref_same_ev l l hm
 rw [sameR_refl] at h3
 obtain ⟨m, f, n, ⟨K4, h4⟩, hf, hz⟩ := parse_total s
 by_cases f0 : f = 0; rotate_left
 · exact ⟨K1 + K2 + K3 + K4, ⟨(printR l).1, (printR l).2.1, (printR l).2.2, h1 _ (by omega), h2 _ (by omega)⟩, h3 _ (by omega), m, f, n, h4 _ (by omega), hf, fun h => absurd h f0⟩
 obtain ⟨hml, hmr⟩ := hz f0
 have hmm : ∀ x ∈ m, Small46 x := fun x hx => by
  have r := right_ok (hmr x hx)
  exact ⟨by have := r.s8; omega, by have := r.h16; omega⟩
 obtain ⟨K5, h5⟩ := print_ev m
 have hpr := printR_ok m hml hmr
 obtain ⟨K6, h6⟩ := ref_same_ev m m hmm
 rw [sameR_refl] at h6
 have hb6 : ∃ K, ∀ k, K ≤ k → (printR m).1.size ≤ 65536 → policy_Parse.f k (printR m).1 = some (m, 0, 0) := by
  by_cases h0 : (printR m).1.size ≤ 65536; rotate_left
  · exact ⟨0, fun k _ ha => absurd ha h0⟩
  obtain ⟨K, hK⟩ := parse_back m hml hmr h0
  exact ⟨K, fun k hk _ => hK k hk⟩
 obtain ⟨K7, h7⟩ := hb6
 refine ⟨K1 + K2 + K3 + K4 + K5 + K6 + K7, ⟨(printR l).1, (printR l).2.1, (printR l).2.2, h1 _ (by omega), h2 _ (by omega)⟩, h3 _ (by omega), m, f, n, h4 _ (by omega), hf, fun _ => ⟨(printR m).1, (printR m).2.2, ?_, h6 _ (by omega), h7 _ (by omega)⟩⟩
 have := h5 (K1 + K2 + K3 + K4 + K5 + K6 + K7) (by omega)
 rw [hpr] at this ⊢
 exact this
end Go.Proofs.YtkedidjjhhjdbaaGreatDoor.Pr
end
