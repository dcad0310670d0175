import Derived.Test.YtkedidjjhhjdbaaGreatDoorD0
import Derived.Test.YtkedidjjhhjdbaaGreatDoorD16
import Derived.Test.YtkedidjjhhjdbaaGreatDoorD17
set_option linter.unusedVariables false
set_option linter.unusedSimpArgs false
namespace Go.Proofs.YtkedidjjhhjdbaaGreatDoor.Pr
open Go.RowKit Go.Proofs.YtkedidjjhhjdbaaGreatDoorW.PrintWords Go.Proofs.YtkedidjjhhjdbaaGreatDoorW.PrintLast Go.Proofs.YtkedidjjhhjdbaaGreatDoorW.PrintMore
theorem Ev.each {α β : Type} {f : α → Nat → Option β} {v : α → β} : ∀ l : List α, (∀ x ∈ l, Ev (f x) (v x)) → ∃ K, ∀ k, K ≤ k → ∀ x ∈ l, f x k = some (v x)
 | [], _ => ⟨0, fun _ _ x h => by cases h⟩
 | y :: l, h => by
  obtain ⟨K, hK⟩ := h y (List.mem_cons_self ..)
  obtain ⟨L, hL⟩ := Ev.each l (fun x hx => h x (List.mem_cons_of_mem _ hx))
  refine ⟨K + L, fun k hk x hx => ?_⟩
  rcases List.mem_cons.1 hx with rfl | hx
  · exact hK k (by omega)
  exact hL k (by omega) x hx
def hidR (ts : List S62) : List S31 → List ByteArray
  | [] => []
  | x :: xs => if fitsL ts x.f1 = true then x.f2 else hidR ts xs
theorem hid_ev (ts : List S62) (hl : ts.length < 4398046511104) (hs : smallA ts) : ∀ vs : List S31, smallV vs → Ev (fun k => hidF k ts vs) (hidR ts vs)
 | [], _ => Ev.const rfl
 | x :: xs, h => by
  have hx := h x (List.mem_cons_self ..)
  have ih := hid_ev ts hl hs xs (fun y hy => h y (List.mem_cons_of_mem _ hy))
  refine Ev.of_eq (g := fun k => (belfryref04_Fits.f k ts x.f1).bind fun b => if b = true then some x.f2 else hidF k ts xs) ?_ (fun k => rfl)
  refine Ev.bind (ref_fitsA_ev ts hl hs x.f1 hx.1) ?_
  rw [hidR]
  cases fitsL ts x.f1 with
  | true => exact Ev.const rfl
  | false => exact ih
theorem seesR_hid (ts : List S62) : ∀ (vs : List S31) (ys : List S62), seesR ts vs = some ys → ys = woK (hidR ts vs) ts
 | [], ys, h => by cases h
 | x :: xs, ys, h => by
  rw [seesR] at h; rw [hidR]
  split at h
  rotate_left
  · rename_i hf; rw [if_neg hf]; exact seesR_hid ts xs ys h
  rename_i hf; rw [if_pos hf]; exact (Option.some.inj h).symm
theorem woK_keys (ks : List ByteArray) (ts : List S62) : ∀ y ∈ woK ks ts, ∀ h ∈ ks, (y.f0.toList == h.toList) = false := by
 intro y hy h hh; have h1 := (List.mem_filter.1 hy).2
 unfold inB at h1
 simp only [Bool.not_eq_true', List.any_eq_false] at h1
 have h2 := h1 h hh; rw [Lib.toList_data, Lib.toList_data]
 refine Bool.eq_false_iff.2 fun e => h2 ?_
 rw [beq_iff_eq] at e ⊢
 exact e.symm
theorem denL_mem : ∀ (D : List S46) (x : S46), x ∈ D → (x.f3 = [] → (denL D).2 = true) ∧ ∀ m t, x.f3 = m :: t → otherM m ∈ (denL D).1
 | [], x, h => by cases h
 | r :: D, x, h => by
  rw [denL]
  rcases List.mem_cons.1 h with rfl | h
  ·
   constructor
   · intro e; rw [e]
   intro m t e; rw [e]; exact List.mem_cons_self ..
  obtain ⟨h1, h2⟩ := denL_mem D x h
  cases r.f3 with
  | nil => exact ⟨fun _ => rfl, h2⟩
  | cons q s => exact ⟨h1, fun m t e => List.mem_cons_of_mem _ (h2 m t e)⟩
theorem viewsL_mem (o : ByteArray) (nt : List S33) : ∀ (A : List S46) (y : S31), y ∈ viewsL o nt A → ∀ q ∈ nt, q ∈ y.f1
 | [], y, h => by cases h
 | r :: A, y, h => by
  rw [viewsL] at h
  split at h
  rotate_left
  · exact viewsL_mem o nt A y h
  rename_i h0
  rcases List.mem_cons.1 h with rfl | h
  rotate_left
  · exact viewsL_mem o nt A y h
  intro q hq
  show q ∈ (bothL r.f3 nt).1
  rw [(bothL_ok h0).2.2]
  exact (insAllU_mem q _ []).2 (.inr (List.mem_append_right _ hq))
theorem rightL_deny {kd : Int} {tn : ByteArray} {sc : List S33} {h : List ByteArray} (e : rightL true kd tn sc h = 0) : sc.length ≤ 1 := by
 unfold rightL at e
 by_cases h1 : kd < 0 ∨ 3 < kd
 · rw [if_pos h1] at e; cases e
 rw [if_neg h1] at e; by_cases h2 : tn.toList = ([42] : List UInt8) ∨ nameB tn = true; rotate_left
 · rw [if_neg h2] at e; cases e
 rw [if_pos h2] at e; by_cases h3 : rightM sc = 0; rotate_left
 · rw [if_neg h3] at e; exact absurd e h3
 rw [if_pos h3] at e; by_cases h4 : true = true ∧ ((sc.length : Int) > 1 ∨ (h.length : Int) > 0)
 · rw [if_pos h4] at e; cases e
 have : ¬ ((sc.length : Int) > 1) := fun hh => h4 ⟨rfl, .inl hh⟩
 omega
theorem denied (ts : List S62) (l : List S46) (o v : ByteArray) (kd : Int) (h : (seesR ts (viewsR l o v kd)).isSome = true) (hov : (o.toList == v.toList) = false) (x : S46) (hx : x ∈ l) :
  ¬(rightL x.f0 x.f1 x.f2 x.f3 x.f4 = 0 ∧ x.f0 = true ∧ ((x.f2.toList == ([42] : List UInt8)) = true ∨ (x.f2.toList == v.toList) = true) ∧ ((x.f1 == 0) = true ∨ (x.f1 == kd) = true) ∧ fitsL ts x.f3 = true) := by
 rintro ⟨h1, h2, h3, h4, h5⟩
 rw [seesR_some] at h
 unfold viewsR at h
 split at h
 · cases h
 split at h
 ·
  rename_i e
  rw [e] at hov
  simp at hov
 have hf : fitsB v kd x = true := by
  unfold fitsB
  exact decide_eq_true ⟨h1, h3.imp (fun e => beq_iff_eq.1 e) (fun e => beq_iff_eq.1 e), h4.imp (fun e => beq_iff_eq.1 e) (fun e => beq_iff_eq.1 e)⟩
 have hD : x ∈ (l.filter (fitsB v kd)).filter (fun r => r.f0) := List.mem_filter.2 ⟨List.mem_filter.2 ⟨hx, hf⟩, h2⟩
 obtain ⟨d1, d2⟩ := denL_mem _ x hD
 split at h
 · cases h
 rename_i hn
 have h1' := h1
 rw [h2] at h1'
 have hl := rightL_deny h1'
 cases hm : x.f3 with
 | nil => exact hn (d1 hm)
 | cons m t =>
  have ht : t = [] := by
   rw [hm] at hl
   exact List.eq_nil_of_length_eq_zero (by simpa using hl)
  subst ht; have hq := d2 m [] hm
  obtain ⟨y, hy, hfy⟩ := List.any_eq_true.1 h
  have hin := viewsL_mem o _ _ y hy _ hq
  have hop := (rightL_zero h1).2.1 m (by rw [hm]; exact List.mem_cons_self ..)
  unfold fitsL at hfy
  have hA := List.all_eq_true.1 hfy _ hin; rw [hm, fitsL_one] at h5
  have hO : holdB (otherM m) (getL m.f1 ts).1 = !holdB m (getL m.f1 ts).1 := other_holds m hop.1 hop.2 _
  rw [show (otherM m).f1 = m.f1 from rfl, hO, h5] at hA; cases hA
theorem denies_facts (l : List S46) (o v : ByteArray) (kd : Int) (ts : List S62) (hl : ∀ r ∈ l, valsB 1048576 r.f3 ∧ r.f3.length ≤ 1048576) (ht : ts.length ≤ 1048576) (hs : ∀ x ∈ ts, x.f1.size ≤ 1048576) :
  ∃ K, l.length ≤ 200 → ∃ vs r, DeF K l o v kd ts vs r := by
 have hts : smallA ts := fun x hx => Nat.lt_of_le_of_lt (hs x hx) (by omega)
 have hV := viewsR_V (l := l) o v kd (fun r hr => (hl r hr).1)
 by_cases h2 : l.length ≤ 200; rotate_left
 · exact ⟨0, fun h => absurd h h2⟩
 obtain ⟨K1, h1⟩ := views_ev l o v kd (by omega)
 obtain ⟨K2, h3⟩ := sees_ev ts (by omega) hts (viewsR l o v kd) hV
 obtain ⟨K3, h4⟩ := same_ev (seesR ts (viewsR l o v kd)) (fun ys hy => by have := seesR_len ts _ ys hy; omega)
 obtain ⟨K4, h5⟩ := sameA_refl [] (by simp)
 obtain ⟨K5, h6⟩ := hid_ev ts (by omega) hts (viewsR l o v kd) hV
 obtain ⟨K6, h7⟩ := Ev.each (f := fun (x : S46) k => belfryref11_Right.f k x.f0 x.f1 x.f2 x.f3 x.f4) (v := fun x => rightL x.f0 x.f1 x.f2 x.f3 x.f4) l (fun x _ => ref_right_ev x.f0 x.f1 x.f2 x.f3 x.f4)
 obtain ⟨K7, h8⟩ := Ev.each (f := fun (x : S46) k => belfryref04_Fits.f k ts x.f3) (v := fun x => fitsL ts x.f3) l (fun x hx => ref_fitsA_ev ts (by omega) hts x.f3 ⟨(hl x hx).2, fun m hm => Nat.le_trans ((hl x hx).1 m hm) (by omega)⟩)
 refine ⟨K1 + K2 + K3 + K4 + K5 + K6 + K7, fun _ => ⟨viewsR l o v kd, seesR ts (viewsR l o v kd), ?_⟩⟩
 exact {
  pv := h1 _ (by omega)
  s1 := h3 _ (by omega)
  own := fun e hk1 hk3 => by
   have e' : v.toList = o.toList := (beq_iff_eq.1 e).symm
   unfold viewsR
   rw [if_neg (by omega), if_pos e', seesR, if_pos (show fitsL ts [] = true from rfl)]
   have : woK [] ts = ts := List.filter_eq_self.2 (fun a _ => rfl)
   rw [this]
  same := h4 _ (by omega)
  same0 := h5 _ (by omega)
  rule := fun hov hr x hx => ⟨_, _, h7 _ (by omega) x hx, h8 _ (by omega) x hx, denied ts l o v kd hr hov x hx⟩
  hid := ⟨_, h6 _ (by omega), fun ys hy => by rw [seesR_hid ts _ ys hy]; exact woK_keys _ _⟩ }
end Go.Proofs.YtkedidjjhhjdbaaGreatDoor.Pr
