import Derived.Test.YtkedidjjhhjdbaaGreatDoorBc0
import Derived.Test.YtkedidjjhhjdbaaGreatDoorBc8
import Derived.Test.YtkedidjjhhjdbaaGreatDoorBc9
import Derived.Maps.RangeWalk
set_option linter.unusedVariables false
set_option linter.unusedSimpArgs false
namespace Go.Proofs.YtkedidjjhhjdbaaGreatDoor.Pr
open Go.RowKit Go.Proofs.YtkedidjjhhjdbaaGreatDoorW.PrintWords Go.Proofs.YtkedidjjhhjdbaaGreatDoorW.PrintLast Go.Proofs.YtkedidjjhhjdbaaGreatDoorW.PrintMore
def fitsF (k : Nat) (viewer : ByteArray) (kind : Int) (r : S46) : Option Bool :=
  (policy_Right.f k r.f0 r.f1 r.f2 r.f3 r.f4).bind fun why => some (decide (why = 0 ∧ (r.f2.toList = ([42] : List UInt8) ∨ r.f2.toList = viewer.toList) ∧ (r.f1 = 0 ∨ r.f1 = kind)))
def pickF (k : Nat) (viewer : ByteArray) (kind : Int) : List S46 → Option (List S46)
  | [] => some []
  | r :: l => (fitsF k viewer kind r).bind fun b => (pickF k viewer kind l).bind fun m => some (if b = true then r :: m else m)
def denF : List S46 → Option (List S33 × Bool)
  | [] => some ([], false)
  | r :: l => (denF l).bind fun x => match r.f3 with
    | [] => some (x.1, true)
    | m :: _ => (policy_other.f m.f0 m.f1 m.f2).bind fun o => some ((⟨o.1, o.2.1, o.2.2⟩ : S33) :: x.1, x.2)
def viewsF (k : Nat) (owner : ByteArray) (nt : List S33) : List S46 → Option (List S31)
  | [] => some []
  | r :: l => (attr_Both.f k r.f3 nt).bind fun b => (viewsF k owner nt l).bind fun m => if b.2 = 0 then (slices_Clone_Str.f r.f4).bind fun h => some ((⟨owner, b.1, h⟩ : S31) :: m) else some m
def policy_Views.f (k : Nat) (l : List S46) (owner viewer : ByteArray) (kind : Int) : Option (List S31) :=
  if l.length < 1048576 then
    (if kind < 1 ∨ kind > 3 then some [] else if viewer.toList = owner.toList then some [(⟨owner, [], []⟩ : S31)] else
      (pickF k viewer kind l).bind fun sel => (denF (sel.filter (fun r => r.f0))).bind fun x => if x.2 = true then some [] else viewsF k owner x.1 (sel.filter (fun r => !r.f0)))
  else none
def RH (v : Value) : Option (DataW Value × List MemPlace) := some (.held v, [])
def zN : DataW Value := .held (.slice none 0 0)
theorem law4 : Go.Maps.Keyed Tryz.prog 4 := Go.Maps.bool_keyed Tryz.underlying4
theorem key4 (b : Bool) : keyOf Tryz.prog 4 (.bool b) = some (.bool b) := Go.Maps.keyOf_bool_mk Tryz.underlying4 b
theorem key4_inv {key : Value} {kl : Lit} (h : keyOf Tryz.prog 4 key = some kl) : ∃ x, key = .bool x ∧ kl = .bool x := by
 cases key <;> simp [keyOf, Tryz.underlying4, mapKey] at h
 obtain rfl := h
 exact ⟨_, rfl, rfl⟩
theorem ownsMap_below {w w' : World} {P : Program} {k : TypeId} {R : Value → Option (DataW Value × List MemPlace)} {b n : Nat} {D : DataW Value} (h : w.ownsMap P k R b n D) (hb : Below w.heap.size w w') : w'.ownsMap P k R b n D := by
 obtain ⟨es, clock, h1, r⟩ := h
 exact ⟨es, clock, (hb.block _ (Array.getElem?_eq_some_iff.1 h1).1).trans h1, r⟩
theorem row_no_map {α : Type} {d : Kd α} {e base : Nat} {ok : Nat → Prop} {w : World} {v : Value} {xs : List α} (h : d.R e w base ok v xs) {P : Program} {k : TypeId} {R : Value → Option (DataW Value × List MemPlace)} {b n : Nat} {D : DataW Value} (hm : w.ownsMap P k R b n D) : d.R e w base (fun k => ok k ∧ k ≠ b) v xs := by
 obtain ⟨es, clock, h1, _⟩ := hm
 refine Kd.R_mono (Kd.R_bound h) (fun k hk => ⟨hk.1, fun e' => ?_⟩)
 obtain ⟨_, _, _, q, _, cells, hc⟩ := hk
 subst e'; rw [h1] at hc; cases hc
structure ViM (w : World) (n : Nat) (D : DataW Value) (vF vT : Value) (aF aT : List S46) (W : World) : Prop where
  be : Below w.heap.size w W
  mp : W.ownsMap Tryz.prog 4 RH w.heap.size n D
  atF : D.atKey (.bool false) zN = .held vF
  atT : D.atKey (.bool true) zN = .held vT
  rF : (Kd.fixed k46 w).R 46 W w.heap.size (fun _ => True) vF aF
  rT : (Kd.fixed k46 w).R 46 W w.heap.size (fun _ => True) vT aT
  ne : ∀ g, vF.ownBlock = some g → vT.ownBlock ≠ some g
theorem ViM.below {w W W' : World} {n : Nat} {D : DataW Value} {vF vT : Value} {aF aT : List S46} (h : ViM w n D vF vT aF aT W) (hb : Below W.heap.size W W') : ViM w n D vF vT aF aT W' :=
 ⟨h.be.trans (hb.mono h.be.size), ownsMap_below h.mp hb, h.atF, h.atT, Kd.R_below h.rF hb, Kd.R_below h.rT hb, h.ne⟩
theorem ViM.new (w : World) : ViM w 0 (.map []) (.slice none 0 0) (.slice none 0 0) [] [] (w.alloc (.map #[] 0)) :=
 ⟨(Below.refl _ _).alloc (Nat.le_refl _) _, World.ownsMap_made _ _ _ _, rfl, rfl, Kd.R_nil _ _ _ _ _, Kd.R_nil _ _ _ _ _, fun g h => by cases h⟩
theorem look_of {W : World} {M n : Nat} {D : DataW Value} {vF vT : Value} (h : W.ownsMap Tryz.prog 4 RH M n D) (hF : D.atKey (.bool false) zN = .held vF) (hT : D.atKey (.bool true) zN = .held vT) (b : Bool) :
  (Instr.lookup 65 (.map (some M)) (.bool b) false).run Tryz.prog W = .ok (if b = true then vT else vF) W := by
 have hz : (zeroValue 22).run Tryz.prog W = .ok (.slice none 0 0) W := Tryz.zeroValue22 W
 obtain ⟨v, ps, hr, hv⟩ := h.lookup law4 Tryz.underlying65 hz (show RH (.slice none 0 0) = some (zN, []) from rfl) (key4 b)
 rw [hr]
 have hv' : DataW.held v = D.atKey (.bool b) zN := (Prod.mk.inj (Option.some.inj hv)).1
 cases b with
 | false =>
  have e : v = vF := by rw [hF] at hv'; exact DataW.held.inj hv'
  rw [e]; rfl
 | true =>
  have e : v = vT := by rw [hT] at hv'; exact DataW.held.inj hv'
  rw [e]; rfl
theorem ViM.look {w W : World} {n : Nat} {D : DataW Value} {vF vT : Value} {aF aT : List S46} (h : ViM w n D vF vT aF aT W) (b : Bool) :
  (Instr.lookup 65 (.map (some w.heap.size)) (.bool b) false).run Tryz.prog W = .ok (if b = true then vT else vF) W := look_of h.mp h.atF h.atT b
theorem ViM.row {w W : World} {n : Nat} {D : DataW Value} {vF vT : Value} {aF aT : List S46} (h : ViM w n D vF vT aF aT W) (b : Bool) :
  (Kd.fixed k46 w).R 46 W w.heap.size (fun _ => True) (if b = true then vT else vF) (if b = true then aT else aF) := by
 cases b
 · exact h.rF
 exact h.rT
theorem atKey_ne {D : DataW Value} {b : Bool} {d : DataW Value} : (D.put (.bool b) d).atKey (.bool (!b)) zN = D.atKey (.bool (!b)) zN :=
 Go.Maps.atKey_put_other (by cases b <;> simp) _ _
theorem atKey_eq {D : DataW Value} (hD : Go.Maps.IsMap D) {b : Bool} {d : DataW Value} : (D.put (.bool b) d).atKey (.bool b) zN = d :=
 Go.Maps.atKey_put_same hD (by simp [WideAt.IsKeyLit]) _ _
theorem ViM.step {w W W1 : World} {n : Nat} {D : DataW Value} {vF vT v1 : Value} {aF aT : List S46} {r : S46} (b : Bool) (h : ViM w n D vF vT aF aT W) (hn : n < 9223372036854775807)
  (hb1 : Below w.heap.size w W1) (hR : (Kd.fixed k46 w).R 46 W1 w.heap.size (fun _ => True) v1 ((if b = true then aT else aF) ++ [r])) (hg : W.grownBy W1 (if b = true then vT else vF).ownBlock)
  (hat : v1.ownBlock = (if b = true then vT else vF).ownBlock ∨ ∃ x, v1.ownBlock = some x ∧ W.heap.size ≤ x) :
  (∀ c, (Instr.lookup 65 (.map (some w.heap.size)) (.bool c) false).run Tryz.prog W1 = .ok (if c = true then vT else vF) W1) ∧ ∃ W2 D2, (Instr.mapUpdate 65 (.map (some w.heap.size)) (.bool b) v1).run Tryz.prog W1 = .ok () W2 ∧ W1.grownBy W2 (some w.heap.size) ∧
   ViM w (n + 1) D2 (if b = true then vF else v1) (if b = true then v1 else vT) (if b = true then aF else aF ++ [r]) (if b = true then aT ++ [r] else aT) W2 := by
 have hrow : ∀ k, (if b = true then vT else vF).ownBlock = some k → k ≠ w.heap.size := by
  intro k hk; cases b
  · exact ((row_no_map h.rF h.mp).1 k hk).2
  exact ((row_no_map h.rT h.mp).1 k hk).2
 have m1 : W1.ownsMap Tryz.prog 4 RH w.heap.size n D := h.mp.kept hg (fun e => hrow _ e.symm rfl)
 obtain ⟨W2, hrun, m2, g2⟩ := m1.update law4 Tryz.underlying65 hn (key4 b) (show RH v1 = some (.held v1, []) from rfl)
 have hR2 := Kd.R_mono (Kd.R_grown (row_no_map hR m1) g2 (fun k hk e => hk.2 (by simpa using e))) (fun _ _ => trivial)
 have hD : Go.Maps.IsMap D := h.mp.isMap
 have hold : ∀ {v : Value} {xs : List S46}, (Kd.fixed k46 w).R 46 W w.heap.size (fun _ => True) v xs → (∀ g, (if b = true then vT else vF).ownBlock = some g → v.ownBlock ≠ some g) → (Kd.fixed k46 w).R 46 W2 w.heap.size (fun _ => True) v xs := by
  intro v xs hv hne
  have q1 := Kd.R_grown (Kd.R_tight rfl hv) hg (fun k hk e => hne k e.symm hk.symm)
  exact Kd.R_mono (Kd.R_grown (row_no_map q1 m1) g2 (fun k hk e => hk.2 (by simpa using e))) (fun _ _ => trivial)
 have hbe : Below w.heap.size w W2 := hb1.grown g2 hb1.size (fun j hj => by cases hj; exact Nat.le_refl _)
 refine ⟨look_of m1 h.atF h.atT, W2, D.put (.bool b) (.held v1), hrun, g2, ?_⟩
 cases b with
 | false =>
  refine ⟨hbe, m2, atKey_eq hD, (atKey_ne (b := false)).trans h.atT, hR2, hold h.rT (fun g hg' => h.ne g hg'), fun g hg' e => ?_⟩
  rcases hat with hat | ⟨x, hx, hle⟩
  · exact h.ne g (hat ▸ hg') e
  have hlt := Kd.R_lt h.rT g e
  have : x = g := Option.some.inj (hx.symm.trans hg')
  omega
 | true =>
  refine ⟨hbe, m2, (atKey_ne (b := true)).trans h.atF, atKey_eq hD, hold h.rF (fun g hg' e => h.ne g e hg'), hR2, fun g hg' e => ?_⟩
  rcases hat with hat | ⟨x, hx, hle⟩
  · exact h.ne g hg' (hat ▸ e)
  have hlt := Kd.R_lt h.rF g hg'
  have : x = g := Option.some.inj (hx.symm.trans e)
  omega
theorem at_fix {w W : World} {A : Option Addr} {n : Nat} {xs : List S46} (h : (Kd.fixed k46 w).C W A n xs) (i : Int) (h0 : 0 ≤ i) (h1 : i < n) : ∃ ad A3 c3 A4 c4, A = some ad ∧ W.cell? (ad.add (i.toNat * 5)) = some (.bool (rd_T46 xs i).f0) ∧ W.cell? ⟨(ad.add (i.toNat * 5)).block, (ad.add (i.toNat * 5)).off + 1, none⟩ = some (.int .i64 (rd_T46 xs i).f1) ∧ W.cell? ⟨(ad.add (i.toNat * 5)).block, (ad.add (i.toNat * 5)).off + 2, none⟩ = some (.string (rd_T46 xs i).f2) ∧ W.cell? ⟨(ad.add (i.toNat * 5)).block, (ad.add (i.toNat * 5)).off + 3, none⟩ = some (.slice A3 (rd_T46 xs i).f3.length c3) ∧ W.cell? ⟨(ad.add (i.toNat * 5)).block, (ad.add (i.toNat * 5)).off + 4, none⟩ = some (.slice A4 (rd_T46 xs i).f4.length c4) ∧ (rd_T46 xs i).f3.length ≤ c3 ∧ k33.C w A3 (rd_T46 xs i).f3.length (rd_T46 xs i).f3 ∧ (rd_T46 xs i).f4.length ≤ c4 ∧ Kd.string.C w A4 (rd_T46 xs i).f4.length (rd_T46 xs i).f4 := by
 obtain ⟨ad, c, e, _, hK, hc0⟩ := Kd.C_get h z46 i h0 h1
 have hc : ∀ j u, c[j]? = some u → W.cell? (ad.add (i.toNat * 5 + j)) = some u := hc0
 obtain ⟨A3, c3, A4, c4, rfl, l3, g3, l4, g4⟩ := k46_open hK
 exact ⟨ad, A3, c3, A4, c4, e, hc 0 _ rfl, by rw [← add_field _ _ 1 (by omega)]; exact hc 1 _ rfl, by rw [← add_field _ _ 2 (by omega)]; exact hc 2 _ rfl, by rw [← add_field _ _ 3 (by omega)]; exact hc 3 _ rfl, by rw [← add_field _ _ 4 (by omega)]; exact hc 4 _ rfl, l3, g3, l4, g4⟩
theorem ranges_below {w w' : World} {P : Program} {k : TypeId} {R : Value → Option (DataW Value × List MemPlace)} {b r n : Nat} {D : DataW Value} {left : Lit → Bool} {cnt : Nat} (h : w.ranges P k R b r n D left cnt) (hb : Below w.heap.size w w') : w'.ranges P k R b r n D left cnt := by
 obtain ⟨es, clock, since, seen, c0, h1, h2, h3, h4, h5, r⟩ := h
 exact ⟨es, clock, since, seen, c0, (hb.block _ (Array.getElem?_eq_some_iff.1 h1).1).trans h1, h2, h3, h4, (hb.block _ (Array.getElem?_eq_some_iff.1 h5).1).trans h5, r⟩
theorem ViM.no_true {w W : World} {n : Nat} {D : DataW Value} {vF vT : Value} {aF aT : List S46} (h : ViM w n D vF vT aF aT W) (hn : Go.Maps.has D (.bool true) = false) : aT = [] := by
 have e := h.atT; rw [Go.Maps.atKey_of_not_has hn] at e
 have e' : vT = .slice none 0 0 := (DataW.held.inj e).symm
 subst e'
 have := Kd.R_reads' h.rT
 exact List.eq_nil_of_length_eq_zero this.1.symm
theorem row_no_iter {α : Type} {d : Kd α} {e base : Nat} {ok : Nat → Prop} {W W' : World} {v : Value} {xs : List α} (hv : d.R e W base ok v xs) {it : Nat} (hg : W.grownBy W' (some it)) (hi : ∃ o m s c, W.heap[it]? = some (.mapIter o m s c)) : d.R e W' base ok v xs := by
 obtain ⟨o, m, s, c, hi⟩ := hi
 refine Kd.R_mono (Kd.R_grown (Kd.R_bound hv) hg (fun k hk e => ?_)) (fun _ hk => hk.1)
 obtain ⟨_, _, _, q, _, cells, hc⟩ := hk
 have e' : k = it := by simpa using e
 subst e'; rw [hi] at hc; cases hc
theorem ranges_iter {w : World} {P : Program} {k : TypeId} {R : Value → Option (DataW Value × List MemPlace)} {b r n : Nat} {D : DataW Value} {left : Lit → Bool} {cnt : Nat} (h : w.ranges P k R b r n D left cnt) : ∃ o m s c, w.heap[r]? = some (.mapIter o m s c) := by
 obtain ⟨es, clock, since, seen, c0, h1, h2, h3, h4, h5, _⟩ := h
 exact ⟨_, _, _, _, h5⟩
theorem ViM.grown {w W W' : World} {n it : Nat} {D : DataW Value} {vF vT : Value} {aF aT : List S46} (h : ViM w n D vF vT aF aT W) (hg : W.grownBy W' (some it)) (hi : ∃ o m s c, W.heap[it]? = some (.mapIter o m s c)) (hlt : w.heap.size < it) : ViM w n D vF vT aF aT W' := by
 obtain ⟨o, m, s, c, hi⟩ := hi
 have hrow : ∀ {v : Value} {xs : List S46}, (Kd.fixed k46 w).R 46 W w.heap.size (fun _ => True) v xs → (Kd.fixed k46 w).R 46 W' w.heap.size (fun _ => True) v xs := by
  intro v xs hv
  refine Kd.R_mono (Kd.R_grown (Kd.R_bound hv) hg (fun k hk e => ?_)) (fun _ _ => trivial)
  obtain ⟨_, _, _, q, _, cells, hc⟩ := hk
  have e' : k = it := by simpa using e
  subst e'; rw [hi] at hc; cases hc
 exact ⟨h.be.grown hg h.be.size (fun j hj => by cases hj; omega), h.mp.kept hg (by simp; omega), h.atF, h.atT, hrow h.rF, hrow h.rT, h.ne⟩
theorem ViM.beside {α : Type} {d : Kd α} {e : Nat} {w W W' : World} {n : Nat} {D : DataW Value} {vF vT v : Value} {aF aT : List S46} {nt : List α} (h : ViM w n D vF vT aF aT W) (hO : d.R e W w.heap.size (fun _ => True) v nt) (he : e ≠ 46) (hg : W.grownBy W' v.ownBlock) (hb : Below w.heap.size w W') : ViM w n D vF vT aF aT W' := by
 have hrow : ∀ {u : Value} {xs : List S46}, (Kd.fixed k46 w).R 46 W w.heap.size (fun _ => True) u xs → (Kd.fixed k46 w).R 46 W' w.heap.size (fun _ => True) u xs := by
  intro u xs hv
  refine Kd.R_mono (Kd.R_grown (Kd.R_bound hv) hg (fun k hk e' => ?_)) (fun _ _ => trivial)
  obtain ⟨_, _, _, q, hq, cells, hc⟩ := hk
  obtain ⟨cs, hc2⟩ := Kd.R_typed hO k e'.symm
  rw [hc] at hc2
  have hq' : q = e := by injection hc2 with h1; injection h1
  subst hq'
  simp [Kd.fixed] at hq
  exact he hq
 refine ⟨hb, h.mp.kept hg (fun e => ?_), h.atF, h.atT, hrow h.rF, hrow h.rT, h.ne⟩
 obtain ⟨cs, hc⟩ := Kd.R_typed hO _ e.symm
 obtain ⟨es, clock, h1, _⟩ := h.mp
 rw [h1] at hc; cases hc
theorem ranges_beside {w W W' : World} {n it : Nat} {D : DataW Value} {v : Value} {nt : List S33} {left : Lit → Bool} {cnt : Nat} (h : W.ranges Tryz.prog 4 RH w.heap.size it n D left cnt) (hO : Kd.R k33 33 W w.heap.size (fun _ => True) v nt) (hg : W.grownBy W' v.ownBlock) : W'.ranges Tryz.prog 4 RH w.heap.size it n D left cnt := by
 refine h.kept hg (fun e => ?_) (fun e => ?_)
 ·
  obtain ⟨cs, hc⟩ := Kd.R_typed hO _ e.symm
  obtain ⟨es, clock, h1, _⟩ := h.owns
  rw [h1] at hc; cases hc
 obtain ⟨cs, hc⟩ := Kd.R_typed hO _ e.symm
 obtain ⟨_, _, _, _, h1⟩ := ranges_iter h
 rw [h1] at hc; cases hc
theorem WRow.below {w w' : World} {base : Nat} {ok : Nat → Prop} {v : Value} {xs : List S33} (h : WRow w base ok v xs) (hb : Below w.heap.size w w') : WRow w' base ok v xs := by
 obtain ⟨A, c, rfl, hc, hm, h⟩ := h
 refine ⟨A, c, rfl, hc, hm, ?_⟩
 rcases h with rfl | ⟨g, cur, rfl, hg, hbb, hh, ht⟩
 · exact .inl rfl
 exact .inr ⟨g, cur, rfl, hg, hbb, blk_below hh hb, ht⟩
theorem WRow.lower {w : World} {base base' : Nat} {ok : Nat → Prop} {v : Value} {xs : List S33} (h : WRow w base ok v xs) (hb : base' ≤ base) : WRow w base' ok v xs := by
 obtain ⟨A, c, rfl, hc, hm, h⟩ := h
 refine ⟨A, c, rfl, hc, hm, ?_⟩
 rcases h with rfl | ⟨g, cur, rfl, hg, hbb, r⟩
 · exact .inl rfl
 exact .inr ⟨g, cur, rfl, hg, Nat.le_trans hb hbb, r⟩
theorem WRow.apart {w : World} {base : Nat} {ok : Nat → Prop} {v u : Value} {xs : List S33} (h : WRow w base ok v xs) {e : Nat} (hty : ∀ k, u.ownBlock = some k → ∃ cells, w.heap[k]? = some (.cells cells e (0, 0))) (he : e ≠ 33) : WRow w base (fun k => some k ≠ u.ownBlock) v xs := by
 obtain ⟨A, c, rfl, hc, hm, h⟩ := h
 refine ⟨A, c, rfl, hc, hm, ?_⟩
 rcases h with rfl | ⟨g, cur, rfl, hg, hbb, hh, ht⟩
 · exact .inl rfl
 refine .inr ⟨g, cur, rfl, fun e' => ?_, hbb, hh, ht⟩
 obtain ⟨cells, hc2⟩ := hty g e'.symm
 rw [hh] at hc2
 injection hc2 with h1
 injection h1 with _ h2
 exact he h2.symm
theorem WRow.slice {w : World} {base : Nat} {ok : Nat → Prop} {v : Value} {xs : List S33} (h : WRow w base ok v xs) : ∃ A c, v = .slice A xs.length c := by
 obtain ⟨A, c, rfl, _⟩ := h
 exact ⟨A, c, rfl⟩
structure Pk (p : Prop) : Prop where
  out : p
theorem next_groups {wr : World} {ops : Array Oper} {rest : List Oper} {o : Oper} {a : Act} {Q : Exit → Act → World → Prop} (hg : o.guard = none) (itm : Operand) (hop : o.op = Op.next itm false) (M it n : Nat) (D : DataW Value) (left : Lit → Bool) (cnt : Nat)
  (hit : a.eval itm = .pointer (some ⟨it, 0, none⟩)) (h : wr.ranges Tryz.prog 4 RH M it n D left cnt)
  (hDone : Pk ((∀ kl, left kl = false) → wpList Tryz.prog ops Q rest (a.put o.dst (.tuple #[.bool false])) wr))
  (hMore : Pk (∀ (b : Bool) (c : Value) (w' : World) (cnt' : Nat), left (.bool b) = true → (∀ zd, D.atKey (.bool b) zd = .held c) → w'.ranges Tryz.prog 4 RH M it n D (fun z => left z && !z.sameKey (.bool b)) cnt' → cnt' < cnt →
   wr.grownBy w' (some it) → (Instr.entry (.pointer (some ⟨it, 0, none⟩))).run Tryz.prog w' = .ok (.tuple #[.bool b, c]) w' → wpList Tryz.prog ops Q rest (a.put o.dst (.tuple #[.bool true, .bool b, c])) w')) :
  wpList Tryz.prog ops Q (o :: rest) a wr := by
 refine wpList_next_ranges wr hg itm hop 4 law4 RH Value.bool id (fun key kl hk => by obtain ⟨x, e, _⟩ := key4_inv hk; exact ⟨x, e⟩) (fun v y _ => ⟨v, rfl⟩) M it n D left cnt hit h (fun _ hl => hDone.out hl) ?_
 intro b c kl y w1 cnt1 hkey hleft hR hat hrg1 hlt hg1 _ hen
 obtain rfl : kl = .bool b := Option.some.inj (hkey.symm.trans (key4 b))
 have e0 : y = (.held c, []) := (Option.some.inj hR).symm
 subst e0; exact hMore.out b c w1 cnt1 hleft hat hrg1 hlt hg1 hen
theorem kV_one (w : World) (a : ByteArray) : Kd.R kV 31 (w.alloc (.cells #[.string a, .slice none 0 0, .slice none 0 0] 31)) w.heap.size (fun _ => True) (.slice (some ⟨w.heap.size, 0, none⟩) 1 1) [(⟨a, [], []⟩ : S31)] := by
 refine ⟨fun _ _ => trivial, [.string a, .slice none 0 0, .slice none 0 0], ⟨rfl, .inr ⟨w.heap.size, 1, _, rfl, Nat.le_refl _, blk_new _ _, Nat.le_refl _, by unfold maxLen; omega, rfl, rfl⟩⟩, rfl, fun j p hj => ?_⟩
 have h0 : j = 0 := by
  have := (List.getElem?_eq_some_iff.1 hj).1
  simp at this
  exact this
 subst h0
 obtain rfl : _ = p := by simpa using hj
 exact kV_mkM _ _ _ _ ⟨none, 0, rfl, Nat.le_refl _, by simp, .inl rfl⟩ (Kd.R_nil _ _ _ _ _)
set_option maxHeartbeats 8000000 in
set_option maxRecDepth 100000 in
theorem policy_Views.calls (k : Nat) (A0 : Option Addr) (c0 : Nat) (l0 : List S46) (a1 a2 : ByteArray) (a3 : Int) (r : List S31) (w : World) (hr0 : Kd.C k46 w A0 l0.length l0) (hc0 : l0.length ≤ c0) (h : policy_Views.f k l0 a1 a2 a3 = some r)
  (he_ : EnvW w := by repeat (first | with_reducible assumption | with_reducible exact env_of (by with_reducible assumption) (by with_reducible assumption) | with_reducible exact env_out (by with_reducible assumption) | with_reducible apply env_alloc | with_reducible apply env_drewN | with_reducible apply env_drew | with_reducible refine env_set ?_ (by with_reducible assumption) (by with_reducible assumption))) :
  Calls Tryz.prog 11 #[.slice A0 l0.length c0, .string a1, .string a2, .int .i64 a3] w fun e w' => ∃ v0_ : Value, e = .returned v0_ ∧ Kd.R kV 31 w' w.heap.size (fun _ => True) v0_ r ∧ Below w.heap.size w w' := by
 unfold policy_Views.f at h
 by_cases hl : l0.length < 1048576; rotate_left
 · rw [if_neg hl] at h; cases h
 rw [if_pos hl] at h; have hu46 := Tryz.underlying46; have hu31 := Tryz.underlying31; have hmm := @run_makeMap Tryz.prog; have HR0 := Aside0.mk hr0; have HE := Aside0.mk he_; have HL := Aside0.mk hl; clear hr0 he_ hl; by_cases c1 : a3 < 1 ∨ a3 > 3
 ·
  rw [if_pos c1] at h
  obtain rfl := Option.some.inj h
  clear h; by_cases c2 : a3 < 1
  ·
   have e1 : decide (a3 < 1) = true := decide_eq_true c2
   clear c1 c2
   go_enter Tryz.func11, Tryz.ntmps11
   go_wp2; go_ret
   exact ⟨_, rfl, Kd.R_nil _ _ _ _ _, Below.refl _ _⟩
  have e1 : decide (a3 < 1) = false := decide_eq_false c2
  have e2 : decide (3 < a3) = true := decide_eq_true (by omega)
  clear c1 c2
  go_enter Tryz.func11, Tryz.ntmps11
  go_wp2; go_ret
  exact ⟨_, rfl, Kd.R_nil _ _ _ _ _, Below.refl _ _⟩
 rw [if_neg c1] at h
 have e1 : decide (a3 < 1) = false := decide_eq_false (by omega)
 have e2 : decide (3 < a3) = false := decide_eq_false (by omega)
 clear c1; by_cases c3 : a2.toList = a1.toList
 ·
  rw [if_pos c3] at h
  obtain rfl := Option.some.inj h
  have e3 : (a2.toList == a1.toList) = true := beq_iff_eq.mpr c3
  clear h c3
  go_enter Tryz.func11, Tryz.ntmps11
  go_wp2; go_ret
  exact ⟨_, rfl, kV_one w a1, (Below.refl _ _).alloc (Nat.le_refl _) _⟩
 rw [if_neg c3] at h
 have e3 : (a2.toList == a1.toList) = false := beq_eq_false_iff_ne.mpr c3
 clear c3
 obtain ⟨sel, hs, h⟩ := Option.bind_eq_some_iff.mp h
 have HS := Aside0.mk hs; have HH := Aside0.mk h; clear hs h
 go_enter Tryz.func11, Tryz.ntmps11
 go_wp2
 go_loopw [40] (fun i wr => ∃ (j : Nat) (acc m : List S46) (D : DataW Value) (vF vT : Value), j ≤ l0.length ∧ i = .int .i64 j ∧ acc.length ≤ j ∧ Aside0 (pickF k a2 a3 (l0.drop j) = some m) ∧ Aside0 (acc ++ m = sel) ∧ Aside0 (ViM w acc.length D vF vT (acc.filter (fun r => !r.f0)) (acc.filter (fun r => r.f0)) wr)) (fun i _ => l0.length - (intOf i).toNat)
 case atStart => exact ⟨0, [], sel, _, _, _, Nat.zero_le _, rfl, Nat.le_refl _, HS, ⟨rfl⟩, ⟨ViM.new w⟩⟩
 case round =>
  obtain ⟨j, acc, m, D, vF, vT, hj, rfl, haj, HP, HA, HV⟩ := hrel
  clear HS; by_cases hlt : j < l0.length
  ·
   have c9b0 : decide ((j : Int) < (l0.length : Int)) = true := decide_eq_true (by omega)
   have c9b1 : decide (j < l0.length) = true := decide_eq_true hlt
   have p9 : (0 : Int) ≤ (j : Int) := by omega
   have q9 : (j : Int) < (l0.length : Int) := by omega
   obtain ⟨ad, A3, c3, A4, c4, e9, h0, h1, h2, h3, h4, l3, g3, l4, g4⟩ := at_T46 HR0.out (j : Int) p9 q9
   cases e9
   rw [Int.toNat_natCast] at h0 h1 h2 h3 h4
   have hx0 := (HV.out.be.cell (cell_place h0).2).trans h0; have hx1 := (HV.out.be.cell (cell_place h1).2).trans h1; have hx2 := (HV.out.be.cell (cell_place h2).2).trans h2; have hx3 := (HV.out.be.cell (cell_place h3).2).trans h3; have hx4 := (HV.out.be.cell (cell_place h4).2).trans h4; have HKM := Aside0.mk (k46_mk w (rd_T46 l0 (j : Int)) l3 g3 l4 g4); have HG3 := Aside0.mk g3; have HG4 := Aside0.mk g4; clear h0 h1 h2 h3 h4 g3 g4; replace p9 := eq_true p9; replace q9 := eq_true q9
   go_upto_region 9 with (fail)
   rw [List.drop_eq_getElem_cons hlt, show l0[j] = rd_T46 l0 (j : Int) by simp [rd_T46, List.getD, List.getElem?_eq_getElem hlt], pickF] at HP
   generalize rd_T46 l0 (j : Int) = x at *
   obtain ⟨b, hb, hp⟩ := Option.bind_eq_some_iff.mp HP.out
   obtain ⟨m1, hm1, hp⟩ := Option.bind_eq_some_iff.mp hp
   have hmm1 := Option.some.inj hp
   unfold fitsF at hb
   obtain ⟨why, hw, hb⟩ := Option.bind_eq_some_iff.mp hb
   have hbb := Option.some.inj hb; have HM1 := Aside0.mk hm1; have HMM := Aside0.mk hmm1; have HW := Aside0.mk hw; have HBB := Aside0.mk hbb; clear hb hp HP hm1 hmm1 hw hbb; have HV1 := Aside0.mk (HV.out.below (below_alloc (Below.refl _ _) (.cells #[.bool x.f0, .int .i64 x.f1, .string x.f2, .slice A3 x.f3.length c3, .slice A4 x.f4.length c4] 46))); have BK := Aside0.mk (blk_new wr (.cells #[.bool x.f0, .int .i64 x.f1, .string x.f2, .slice A3 x.f3.length c3, .slice A4 x.f4.length c4] 46))
   generalize wr.alloc (.cells #[.bool x.f0, .int .i64 x.f1, .string x.f2, .slice A3 x.f3.length c3, .slice A4 x.f4.length c4] 46) = W1 at HV1 BK ⊢
   have HLT : Aside0 (∀ c : Bool, ∀ k, (if c = true then vT else vF : Value).ownBlock = some k → k < wr.heap.size) := ⟨fun c k hk => Kd.R_lt (HV.out.row c) k hk⟩
   generalize wr.heap.size = g at BK HLT ⊢
   go_cut [68] (fun v68 wc => v68 = .bool b ∧ Aside0 (ViM w acc.length D vF vT (acc.filter (fun r => !r.f0)) (acc.filter (fun r => r.f0)) wc) ∧ Aside0 (wc.heap[g]? = some (.cells #[.bool x.f0, .int .i64 x.f1, .string x.f2, .slice A3 x.f3.length c3, .slice A4 x.f4.length c4] 46 (0, 0))))
   case first =>
    clear HV hx0 hx1 hx2 hx3 hx4; have hx0 := (blk_cell BK.out 0).trans rfl; have hx1 := (blk_cell BK.out 1).trans rfl; have hx2 := (blk_cell BK.out 2).trans rfl; have hx3 := (blk_cell BK.out 3).trans rfl; have hx4 := (blk_cell BK.out 4).trans rfl
    go_wp2_with fail
    refine (policy_Right.calls k x.f0 x.f1 x.f2 A3 c3 x.f3 A4 c4 x.f4 why _ (Kd.C_below HG3.out HV1.out.be) l3 (Kd.C_below HG4.out HV1.out.be) l4 HW.out (env_below HE.out HV1.out.be)).mono ?_
    rintro e w2 ⟨rfl, hbl⟩
    replace HV1 := Aside0.mk (HV1.out.below hbl)
    replace BK := Aside0.mk (blk_below BK.out hbl)
    clear hbl hx0 hx1 hx2 hx3 hx4; have hx1 := (blk_cell BK.out 1).trans rfl; have hx2 := (blk_cell BK.out 2).trans rfl; have hbb := HBB.out; clear HBB; by_cases d1 : why = 0; rotate_left
    ·
     have f1 : (why == 0) = false := beq_eq_false_iff_ne.mpr d1
     obtain rfl : b = false := by rw [← hbb]; exact decide_eq_false (fun hh => d1 hh.1)
     clear hbb d1; go_wp2
     go_meet
     case rel => exact ⟨rfl, HV1, BK⟩
    subst d1; by_cases d2 : x.f2.toList = ([42] : List UInt8)
    ·
     have f2 : (x.f2.toList == ([42] : List UInt8)) = true := beq_iff_eq.mpr d2
     by_cases d4 : x.f1 = 0
     ·
      have f4 : (x.f1 == 0) = true := beq_iff_eq.mpr d4
      obtain rfl : b = true := by rw [← hbb]; exact decide_eq_true ⟨rfl, .inl d2, .inl d4⟩
      clear hbb d2 d4; go_wp2
      go_meet
      case rel => exact ⟨rfl, HV1, BK⟩
     have f4 : (x.f1 == 0) = false := beq_eq_false_iff_ne.mpr d4
     by_cases d5 : x.f1 = a3
     ·
      have f5 : (x.f1 == a3) = true := beq_iff_eq.mpr d5
      obtain rfl : b = true := by rw [← hbb]; exact decide_eq_true ⟨rfl, .inl d2, .inr d5⟩
      clear hbb d2 d4 d5; go_wp2
      go_meet
      case rel => exact ⟨rfl, HV1, BK⟩
     have f5 : (x.f1 == a3) = false := beq_eq_false_iff_ne.mpr d5
     obtain rfl : b = false := by rw [← hbb]; exact decide_eq_false (fun hh => hh.2.2.elim d4 d5)
     clear hbb d2 d4 d5; go_wp2
     go_meet
     case rel => exact ⟨rfl, HV1, BK⟩
    have f2 : (x.f2.toList == ([42] : List UInt8)) = false := beq_eq_false_iff_ne.mpr d2
    by_cases d3 : x.f2.toList = a2.toList; rotate_left
    ·
     have f3 : (x.f2.toList == a2.toList) = false := beq_eq_false_iff_ne.mpr d3
     obtain rfl : b = false := by rw [← hbb]; exact decide_eq_false (fun hh => hh.2.1.elim d2 d3)
     clear hbb d2 d3; go_wp2
     go_meet
     case rel => exact ⟨rfl, HV1, BK⟩
    have f3 : (x.f2.toList == a2.toList) = true := beq_iff_eq.mpr d3
    by_cases d4 : x.f1 = 0
    ·
     have f4 : (x.f1 == 0) = true := beq_iff_eq.mpr d4
     obtain rfl : b = true := by rw [← hbb]; exact decide_eq_true ⟨rfl, .inr d3, .inl d4⟩
     clear hbb d2 d3 d4; go_wp2
     go_meet
     case rel => exact ⟨rfl, HV1, BK⟩
    have f4 : (x.f1 == 0) = false := beq_eq_false_iff_ne.mpr d4
    by_cases d5 : x.f1 = a3
    ·
     have f5 : (x.f1 == a3) = true := beq_iff_eq.mpr d5
     obtain rfl : b = true := by rw [← hbb]; exact decide_eq_true ⟨rfl, .inr d3, .inr d5⟩
     clear hbb d2 d3 d4 d5; go_wp2
     go_meet
     case rel => exact ⟨rfl, HV1, BK⟩
    have f5 : (x.f1 == a3) = false := beq_eq_false_iff_ne.mpr d5
    obtain rfl : b = false := by rw [← hbb]; exact decide_eq_false (fun hh => hh.2.2.elim d4 d5)
    clear hbb d2 d3 d4 d5; go_wp2
    go_meet
    case rel => exact ⟨rfl, HV1, BK⟩
   clear HV HV1 BK
   obtain ⟨rfl, HV, BK⟩ := hcut
   have hmm1 := HMM.out; clear HMM; by_cases c1 : b = true; rotate_left
   ·
    obtain rfl : b = false := Bool.eq_false_iff.mpr c1
    rw [if_neg c1] at hmm1; subst hmm1; have hl9 := HL.out; go_wp2
    go_roundw
    case rel => exact ⟨j + 1, acc, m1, D, vF, vT, hlt, by go_num, by omega, HM1, HA, HV⟩
    case measure => simp [intOf]; omega
   subst c1; rw [if_pos rfl] at hmm1; have hl9 := HL.out
   replace HV := Aside0.mk (HV.out.below (below_drew (Below.refl _ _)))
   have hlk := HV.out.look x.f0
   go_upto_region 10 with (fail)
   refine start_ (n := 11) (S := fun w' => w'.heap[g]? = some (.cells #[.bool x.f0, .int .i64 x.f1, .string x.f2, .slice A3 x.f3.length c3, .slice A4 x.f4.length c4] 46 (0, 0)) ∧ (Instr.lookup 65 (.map (some w.heap.size)) (.bool x.f0) false).run Tryz.prog w' = .ok (if x.f0 = true then vT else vF) w') (ds := [10]) (bA 11 0) (by kernel_rfl) rfl rfl ⟨BK.out, hlk⟩ (fun hHeld => ?_)
   replace BK : Aside0 (wc.drew.heap[g]? = some (.cells #[.bool x.f0, .int .i64 x.f1, .string x.f2, .slice A3 x.f3.length c3, .slice A4 x.f4.length c4] 46 (0, 0))) := ⟨BK.out⟩
   clear hlk
   generalize wc.drew = Wd at HV BK hHeld ⊢
   refine pure_ (i := 0) (N := some 69) (v := ?_) (a' := ?_) (bA 11 1) rfl rfl (by kernel_rfl) (fun _ _ _ h => h) (Or.inl ⟨by rfl, ?_⟩) ?_ ?_
   rotate_left
   · intro w'; go_simp; with_reducible rfl
   rotate_left
   · simp only [Act.put, List.setIfInBounds_toArray, List.set_cons_zero, List.set_cons_succ, i64_w, i32_w]; rfl
   refine pure_ (i := 1) (N := some 70) (v := ?_) (a' := ?_) (bA 11 3) rfl rfl (by kernel_rfl) (fun _ _ _ h => h) (Or.inl ⟨by rfl, ?_⟩) ?_ ?_
   rotate_left
   · intro w'; go_simp; with_reducible rfl
   rotate_left
   · simp only [Act.put, List.setIfInBounds_toArray, List.set_cons_zero, List.set_cons_succ, i64_w, i32_w]; rfl
   refine pure_ (i := 3) (N := some 72) (v := ?_) (a' := ?_) (bA 11 11) rfl rfl (by kernel_rfl) (fun _ _ _ h => h) (Or.inl ⟨by rfl, ?_⟩) ?_ ?_
   rotate_left
   · intro w'; go_simp; with_reducible rfl
   rotate_left
   · simp only [Act.put, List.setIfInBounds_toArray, List.set_cons_zero, List.set_cons_succ, i64_w, i32_w]; rfl
   refine pure_ (i := 4) (N := some 73) (v := ?_) (a' := ?_) (bA 11 27) rfl rfl (by kernel_rfl) (fun _ _ _ h => h) (Or.inl ⟨by rfl, ?_⟩) ?_ ?_
   rotate_left
   · intro w'; go_simp; with_reducible rfl
   rotate_left
   · simp only [Act.put, List.setIfInBounds_toArray, List.set_cons_zero, List.set_cons_succ, i64_w, i32_w]; rfl
   refine take_ (i := 2) (N := some 71) (v := ?_) (a' := ?_) (bA 11 31) rfl rfl (by kernel_rfl) (fun _ _ _ h => h) (Or.inl ⟨by rfl, ?_⟩) hHeld ?_ ?_
   rotate_left
   ·
    rintro w' ⟨s0, s1⟩
    have q0 := (blk_cell s0 0).trans rfl; have q1 := (blk_cell s0 1).trans rfl; have q2 := (blk_cell s0 2).trans rfl; have q3 := (blk_cell s0 3).trans rfl; have q4 := (blk_cell s0 4).trans rfl; go_simp; with_reducible rfl
   rotate_left
   · simp only [Act.put, List.setIfInBounds_toArray, List.set_cons_zero, List.set_cons_succ, i64_w, i32_w]; rfl
   refine take_ (i := 5) (N := some 74) (v := ?_) (a' := ?_) (bA 11 63) rfl rfl (by kernel_rfl) (fun _ _ _ h => h) (Or.inl ⟨by rfl, ?_⟩) hHeld ?_ ?_
   rotate_left
   ·
    rintro w' ⟨s0, s1⟩
    have q0 := (blk_cell s0 0).trans rfl; have q1 := (blk_cell s0 1).trans rfl; have q2 := (blk_cell s0 2).trans rfl; have q3 := (blk_cell s0 3).trans rfl; have q4 := (blk_cell s0 4).trans rfl; go_simp; with_reducible rfl
   rotate_left
   · simp only [Act.put, List.setIfInBounds_toArray, List.set_cons_zero, List.set_cons_succ, i64_w, i32_w]; rfl
   refine take_ (i := 6) (N := some 75) (v := ?_) (a' := ?_) (bA 11 127) rfl rfl (by kernel_rfl) (fun _ _ _ h => h) (Or.inl ⟨by rfl, ?_⟩) hHeld ?_ ?_
   rotate_left
   ·
    rintro w' ⟨s0, s1⟩
    go_simp; with_reducible rfl
   rotate_left
   · simp only [Act.put, List.setIfInBounds_toArray, List.set_cons_zero, List.set_cons_succ, i64_w, i32_w]; rfl
   refine take_ (i := 7) (N := some 76) (v := ?_) (a' := ?_) (bA 11 255) rfl rfl (by kernel_rfl) (fun _ _ _ h => h) (Or.inl ⟨by rfl, ?_⟩) hHeld ?_ ?_
   rotate_left
   ·
    rintro w' ⟨s0, s1⟩
    have q0 := (blk_cell s0 0).trans rfl; have q1 := (blk_cell s0 1).trans rfl; have q2 := (blk_cell s0 2).trans rfl; have q3 := (blk_cell s0 3).trans rfl; have q4 := (blk_cell s0 4).trans rfl; go_simp; with_reducible rfl
   rotate_left
   · simp only [Act.put, List.setIfInBounds_toArray, List.set_cons_zero, List.set_cons_succ, i64_w, i32_w]; rfl
   refine one_ (i := 8) (N := some 77) (bA 11 511) rfl rfl (by kernel_rfl) (by decide) (fun K hK => ?_)
   go_simp
   refine hK.out _ _ ⟨blk_alloc BK.out _, (HV.out.below (below_alloc (Below.refl _ _) _)).look x.f0⟩ (fun hHeld => ?_)
   clear hK K
   refine one_ (i := 9) (N := some 78) (bA 11 1023) rfl rfl (by kernel_rfl) (by decide) (fun K hK => ?_)
   refine Kd.R_append_step (Kd.fixed k46 w) (w0 := w) w.heap.size (by rfl) (.tmp 75) (.tmp 77) 22 46 (.agg #[(.bool false), (.int .i64 0), (.string ⟨#[]⟩), (.slice none 0 0), (.slice none 0 0)]) 80 rfl Tryz.underlying22 info46 rfl (show 0 < 5 from by decide) (by omega) (if x.f0 = true then vT else vF) (if x.f0 = true then acc.filter (fun r => r.f0) else acc.filter (fun r => !r.f0)) x [.bool x.f0, .int .i64 x.f1, .string x.f2, .slice A3 x.f3.length c3, .slice A4 x.f4.length c4] (fun _ => True) (fun _ => False) rfl rfl HKM.out (fun _ hh => hh.elim) (fun _ _ => trivial) (HV.out.row x.f0) HV.out.be HV.out.be.size ?aL ?_
   (case aL => have hh : (if x.f0 = true then acc.filter (fun r => r.f0) else acc.filter (fun r => !r.f0)).length ≤ acc.length := (by split <;> exact List.length_filter_le _ _); have := HL.out; omega)
   intro v1 w1 ho hb1 hg1 hat
   obtain ⟨hlk1, W3, D2, hrun, hgr, hv3⟩ := HV.out.step x.f0 (by have := HL.out; omega) hb1 ho hg1 hat
   have HV3 := Aside0.mk hv3
   refine hK.out _ _ ⟨blk_grown BK.out hg1 (fun e => by have := HLT.out x.f0 g e.symm; omega), hlk1 x.f0⟩ (fun hHeld => ?_)
   clear hK K ho hb1 hg1 hat hlk1 hgr hv3
   refine norm_ (a' := ?_) ?_ ?_
   rotate_left
   ·
    show Act.put _ (some 78) _ = _
    simp only [Act.put, List.setIfInBounds_toArray, List.set_cons_zero, List.set_cons_succ, i64_w, i32_w]; rfl
   refine last_ (i := 10) (N := none) (bA 11 2047) rfl rfl (by kernel_rfl) (by decide) (fun K hK => ?_)
   go_simp
   refine hK.out _ _ ?_
   clear hK K hrun
   refine done_ (by kernel_rfl) ?_
   go_wp2
   go_roundw
   case rel =>
    have e1 : (acc ++ [x]).filter (fun r => !r.f0) = if x.f0 = true then acc.filter (fun r => !r.f0) else acc.filter (fun r => !r.f0) ++ [x] := by cases hx : x.f0 <;> simp [List.filter_append, hx]
    have e2 : (acc ++ [x]).filter (fun r => r.f0) = if x.f0 = true then acc.filter (fun r => r.f0) ++ [x] else acc.filter (fun r => r.f0) := by cases hx : x.f0 <;> simp [List.filter_append, hx]
    exact ⟨j + 1, acc ++ [x], m1, D2, _, _, hlt, by go_num, by simp; omega, HM1, ⟨by rw [← HA.out, ← hmm1]; simp⟩, ⟨by rw [e1, e2, List.length_append]; exact HV3.out⟩⟩
   case measure => simp [intOf]; omega
  obtain rfl : j = l0.length := by omega
  have c9b0 : decide ((l0.length : Int) < (l0.length : Int)) = false := decide_eq_false (by omega)
  have c9b1 : decide (l0.length < l0.length) = false := decide_eq_false hlt
  have hp := HP.out; rw [List.drop_length, pickF] at hp
  obtain rfl := Option.some.inj hp
  have ha := HA.out; rw [List.append_nil] at ha; subst ha; clear hp HP HA hlt hj; have h := HH.out; clear HH
  obtain ⟨X, hX, h⟩ := Option.bind_eq_some_iff.mp h
  have HX := Aside0.mk hX; have HH := Aside0.mk h; clear hX h
  have hsz : w.heap.size < wr.heap.size := HV.out.mp.lt
  go_wp2_with (first | (at_range; refine wpList_range_own _ rfl _ 65 rfl 4 22 law4 Tryz.underlying65 RH w.heap.size _ D rfl HV.out.mp ?_; intro w0 hrg0 hg0 hs0) | go_in)
  go_frame
  have HV0 := Aside0.mk (HV.out.below ((Below.refl _ _).grown hg0 (Nat.le_refl _) (fun j hj => by cases hj)))
  have HRG := Aside0.mk hrg0
  obtain ⟨AF, cF, rfl⟩ := Kd.R_slice HV.out.rF
  obtain ⟨AT, cT, rfl⟩ := Kd.R_slice HV.out.rT
  have hlF : (acc.filter (fun r => !r.f0)).length < 1048576 := by have := List.length_filter_le (fun r : S46 => !r.f0) acc; have := HL.out; omega
  have hlT : (acc.filter (fun r => r.f0)).length < 1048576 := by have := List.length_filter_le (fun r : S46 => r.f0) acc; have := HL.out; omega
  clear HV hrg0 hg0 hs0
  generalize acc.filter (fun r => !r.f0) = aF at *
  generalize acc.filter (fun r => r.f0) = aT at *
  generalize wr.heap.size = it at HRG hsz ⊢
  go_loopw [12, 13] (fun v12 v13 ws => ∃ (left : Lit → Bool) (cnt : Nat) (nt : List S33) (fl : Bool), v13 = .bool fl ∧ Aside0 (ws.ranges Tryz.prog 4 RH w.heap.size it acc.length D left cnt) ∧ Aside0 (ViM w acc.length D (.slice AF aF.length cF) (.slice AT aT.length cT) aF aT ws) ∧ Aside0 (Kd.R k33 33 ws w.heap.size (fun _ => True) v12 nt) ∧ Aside0 ((left (.bool true) = Go.Maps.has D (.bool true) ∧ nt = [] ∧ fl = false) ∨ (left (.bool true) = false ∧ nt = X.1 ∧ fl = X.2))) (fun _ _ ws => ws.rangeLeft w.heap.size it)
  case atStart => exact ⟨_, _, [], false, rfl, HRG, HV0, ⟨Kd.R_nil _ _ _ _ _⟩, ⟨.inl ⟨rfl, rfl, rfl⟩⟩⟩
  case round =>
   clear HRG HV0
   obtain ⟨left, cnt, nt, fl, rfl, HRG, HV, HO, HST⟩ := hrel
   go_wp2_with (first
    | (at_next; refine next_groups rfl _ rfl w.heap.size it _ D left cnt rfl HRG.out ?_ ?_)
    | go_in)
   ·
    refine ⟨fun hl0 => ?_⟩
    have hnf : nt = X.1 ∧ fl = X.2 := by
     rcases HST.out with ⟨h1, h2, h3⟩ | ⟨_, h2, h3⟩
     rotate_left
     · exact ⟨h2, h3⟩
     rw [hl0] at h1; have ha := HV.out.no_true h1.symm; subst ha; have hx := HX.out; rw [denF] at hx
     obtain rfl := Option.some.inj hx
     exact ⟨h2, h3⟩
    obtain ⟨X1, X2⟩ := X
    obtain rfl : nt = X1 := hnf.1
    obtain rfl : fl = X2 := hnf.2
    have h : (if fl = true then some [] else viewsF k a1 nt aF) = some r := HH.out
    clear HH HST HX HRG hl0 hnf
    cases fl with
    | true =>
     rw [if_pos rfl] at h
     obtain rfl := Option.some.inj h
     clear h; go_wp2; go_ret
     exact ⟨_, rfl, Kd.R_nil _ _ _ _ _, HV.out.be⟩
    | false =>
     rw [if_neg (by simp)] at h; have HH := Aside0.mk h; have hlk := HV.out.look false
     obtain ⟨AN, cN, rfl⟩ := Kd.R_slice HO.out
     clear h; go_wp2
     go_loopw [18, 114] (fun v18 i ws => ∃ (j : Nat) (out m : List S31), j ≤ aF.length ∧ i = .int .i64 j ∧ out.length ≤ j ∧ Aside0 (viewsF k a1 nt (aF.drop j) = some m) ∧ Aside0 (out ++ m = r) ∧ Aside0 (ViM w acc.length D (.slice AF aF.length cF) (.slice AT aT.length cT) aF aT ws) ∧ Aside0 (Kd.R k33 33 ws w.heap.size (fun _ => True) (.slice AN nt.length cN) nt) ∧ Aside0 (Kd.R kV 31 ws w.heap.size (fun _ => True) v18 out)) (fun _ i _ => aF.length - (intOf i).toNat)
     case atStart => exact ⟨0, [], r, Nat.zero_le _, rfl, Nat.zero_le _, HH, ⟨rfl⟩, HV, HO, ⟨Kd.R_nil _ _ _ _ _⟩⟩
     case round =>
      clear HH HV HO hlk
      obtain ⟨j, out, m, hj, rfl, hol, HM, HR, HV, HO, HW⟩ := hrel
      by_cases hlt : j < aF.length; rotate_left
      ·
       obtain rfl : j = aF.length := by omega
       have c9b0 : decide ((aF.length : Int) < (aF.length : Int)) = false := decide_eq_false (by omega)
       have c9b1 : decide (aF.length < aF.length) = false := decide_eq_false hlt
       have hm := HM.out; rw [List.drop_length, viewsF] at hm
       obtain rfl := Option.some.inj hm
       have hr : out = r := by rw [← HR.out, List.append_nil]
       go_wp2; go_ret
       exact ⟨_, rfl, hr ▸ HW.out, HV.out.be⟩
      have c9b0 : decide ((j : Int) < (aF.length : Int)) = true := decide_eq_true (by omega)
      have c9b1 : decide (j < aF.length) = true := decide_eq_true hlt
      have p9 : (0 : Int) ≤ (j : Int) := by omega
      have q9 : (j : Int) < (aF.length : Int) := by omega
      obtain ⟨ad, A3, c3, A4, c4, e9, hx0, hx1, hx2, hx3, hx4, l3, g3, l4, g4⟩ := at_fix (Kd.R_reads' HV.out.rF).2.2 (j : Int) p9 q9
      cases e9
      rw [Int.toNat_natCast] at hx0 hx1 hx2 hx3 hx4
      replace p9 := eq_true p9; replace q9 := eq_true q9; have hm := HM.out
      rw [List.drop_eq_getElem_cons hlt, show aF[j] = rd_T46 aF (j : Int) by simp [rd_T46, List.getD, List.getElem?_eq_getElem hlt], viewsF] at hm
      generalize rd_T46 aF (j : Int) = x at *
      obtain ⟨⟨b1, b2⟩, hb, hm⟩ := Option.bind_eq_some_iff.mp hm
      obtain ⟨m2, hm2, hm⟩ := Option.bind_eq_some_iff.mp hm
      have HB := Aside0.mk hb; have HM2 := Aside0.mk hm2; have HM3 := Aside0.mk hm; have HG3 := Aside0.mk g3; have HG4 := Aside0.mk g4; clear hb hm2 hm HM g3 g4
      go_upto_region 31 with (fail)
      replace HV := Aside0.mk (HV.out.below (below_alloc (Below.refl _ _) (.cells #[.bool x.f0, .int .i64 x.f1, .string x.f2, .slice A3 x.f3.length c3, .slice A4 x.f4.length c4] 46)))
      replace HO := Aside0.mk (Kd.R_alloc HO.out (.cells #[.bool x.f0, .int .i64 x.f1, .string x.f2, .slice A3 x.f3.length c3, .slice A4 x.f4.length c4] 46))
      replace HW := Aside0.mk (Kd.R_alloc HW.out (.cells #[.bool x.f0, .int .i64 x.f1, .string x.f2, .slice A3 x.f3.length c3, .slice A4 x.f4.length c4] 46))
      have BK := Aside0.mk (blk_new wr (.cells #[.bool x.f0, .int .i64 x.f1, .string x.f2, .slice A3 x.f3.length c3, .slice A4 x.f4.length c4] 46))
      generalize wr.alloc (.cells #[.bool x.f0, .int .i64 x.f1, .string x.f2, .slice A3 x.f3.length c3, .slice A4 x.f4.length c4] 46) = W1 at HV HO HW BK ⊢
      generalize wr.heap.size = g at BK ⊢
      clear hx0 hx1 hx2 hx3 hx4; have hx3 := (blk_cell BK.out 3).trans rfl
      go_wp2_with fail
      refine (attr_Both.calls k A3 c3 x.f3 AN cN nt b1 b2 _ (Kd.C_below HG3.out HV.out.be) l3 (Kd.R_reads' HO.out).2.2 (Kd.R_reads' HO.out).2.1 HB.out (env_below HE.out HV.out.be)).mono ?_
      rintro e w2 ⟨vS, rfl, hws, hbl⟩
      have HWS := Aside0.mk (hws.lower HV.out.be.size)
      replace HV := Aside0.mk (HV.out.below hbl)
      replace HO := Aside0.mk (Kd.R_below HO.out hbl)
      replace HW := Aside0.mk (Kd.R_below HW.out hbl)
      replace BK := Aside0.mk (blk_below BK.out hbl)
      clear hws hbl hx3 HB; have hm := HM3.out; clear HM3; by_cases d1 : b2 = 0; rotate_left
      ·
       rw [if_neg d1] at hm
       obtain rfl := Option.some.inj hm
       have f1 : (b2 == 0) = false := beq_eq_false_iff_ne.mpr d1
       clear hm d1; go_wp2
       go_roundw
       case rel => exact ⟨j + 1, out, m2, hlt, by go_num, by omega, HM2, HR, HV, HO, HW⟩
       case measure => simp [intOf]; omega
      subst d1; rw [if_pos rfl] at hm
      obtain ⟨hh, hcl, hm⟩ := Option.bind_eq_some_iff.mp hm
      obtain rfl := Option.some.inj hm
      have HCL := Aside0.mk hcl; have hx4 := (blk_cell BK.out 4).trans rfl
      obtain ⟨AS, cS, rfl⟩ := HWS.out.slice
      clear hcl hm
      go_wp2_with fail
      refine (slices_Clone_Str.calls A4 c4 x.f4 hh _ (Kd.C_below HG4.out HV.out.be) l4 HCL.out).mono ?_
      rintro e w3 ⟨vH, rfl, hvh, hbl⟩
      have HVH := Aside0.mk (Kd.R_lower hvh HV.out.be.size)
      replace HWS := Aside0.mk (HWS.out.below hbl)
      replace HV := Aside0.mk (HV.out.below hbl)
      replace HO := Aside0.mk (Kd.R_below HO.out hbl)
      replace HW := Aside0.mk (Kd.R_below HW.out hbl)
      clear hvh hbl hx4 HCL BK
      obtain ⟨AH, cH, rfl⟩ := Kd.R_slice HVH.out
      go_wp2_with (first | ((with_reducible refine gate_builtin (b := .append) (xs := #[.tmp 127, .tmp 134]) rfl ?_); at_builtin; refine Kd.R_append kV (w0 := w) w.heap.size rfl (.tmp 127) (.tmp 134) 25 31 (.agg #[(.string ⟨#[]⟩), (.slice none 0 0), (.slice none 0 0)]) 64 rfl Tryz.underlying25 info31 rfl (by decide) (by omega) u18 out (⟨a1, b1, hh⟩ : S31) [.string a1, .slice AS b1.length cS, .slice AH hh.length cH] (fun _ => True) (fun k_ => some k_ ≠ u18.ownBlock) rfl rfl (kV_mkM _ _ _ (⟨a1, b1, hh⟩ : S31) (HWS.out.apart (Kd.R_typed HW.out) (by decide)) (Kd.R_mono (Kd.R_apart' HVH.out (Kd.R_typed HW.out) (by decide)) (fun _ hk => hk.2))) (fun _ hk => ⟨trivial, hk⟩) (fun _ _ => trivial) HW.out HV.out.be HV.out.be.size (by omega) ?_; intro v1 w6 ho6 hb6 hg6 hat6; have HV3 := Aside0.mk (HV.out.beside HW.out (by decide) hg6 hb6); have HO3 := Aside0.mk (Kd.R_mono (Kd.R_grown (Kd.R_apart' HO.out (Kd.R_typed HW.out) (by decide)) hg6 (fun _ hk => hk.2)) (fun _ _ => trivial)); have HW3 := Aside0.mk ho6; clear ho6 hb6 hg6 hat6 HV HO HW))
      go_roundw
      case rel => exact ⟨j + 1, out ++ [(⟨a1, b1, hh⟩ : S31)], m2, hlt, by go_num, by simp; omega, HM2, ⟨by rw [← HR.out]; simp⟩, HV3, HO3, HW3⟩
      case measure => simp [intOf]; omega
   refine ⟨⟨fun c w1 cnt1 hleft hat hrg1 hlt hg1 hen => ?_, fun c w1 cnt1 hleft hat hrg1 hlt hg1 hen => ?_⟩⟩
   ·
    obtain rfl : c = .slice AF aF.length cF := by
     have e1 := hat zN; rw [HV.out.atF] at e1
     exact (DataW.held.inj e1).symm
    have HI := ranges_iter HRG.out; have HV1 := Aside0.mk (HV.out.grown hg1 HI hsz); have HO1 := Aside0.mk (row_no_iter HO.out hg1 HI); have HRG1 := Aside0.mk hrg1
    have HLT1 := Aside0.mk (show cnt1 < wr.rangeLeft w.heap.size it by rw [HRG.out.left_eq]; exact hlt)
    have HLF := Aside0.mk hleft; have HST1 := HST; clear hat hrg1 hg1 HI HV HO hlt hleft HST HRG; go_wp2
    go_loopw [12, 13, 89] (fun v12 v13 i ws => ∃ j : Nat, j ≤ aF.length ∧ i = .int .i64 j ∧ v13 = .bool fl ∧ Aside0 (ws.ranges Tryz.prog 4 RH w.heap.size it acc.length D (fun z => left z && !z.sameKey (.bool false)) cnt1) ∧ Aside0 (ViM w acc.length D (.slice AF aF.length cF) (.slice AT aT.length cT) aF aT ws) ∧ Aside0 (Kd.R k33 33 ws w.heap.size (fun _ => True) v12 nt)) (fun _ _ i _ => aF.length - (intOf i).toNat)
    case atStart => exact ⟨0, Nat.zero_le _, rfl, rfl, HRG1, HV1, HO1⟩
    case round =>
     clear HRG1 HV1 HO1
     obtain ⟨j, hj, rfl, rfl, HRG, HV, HO⟩ := hrel
     by_cases hlt : j < aF.length; rotate_left
     ·
      obtain rfl : j = aF.length := by omega
      have c9b0 : decide ((aF.length : Int) < (aF.length : Int)) = false := decide_eq_false (by omega)
      have c9b1 : decide (aF.length < aF.length) = false := decide_eq_false hlt
      go_wp2
      go_roundw
      case rel =>
       have e1 : ((Lit.bool true).sameKey (.bool false)) = false := by decide
       exact ⟨_, _, nt, fl, rfl, HRG, HV, HO, ⟨by have := HST1.out; simpa [e1] using this⟩⟩
      case measure => rw [HRG.out.left_eq]; exact HLT1.out
     have c9b0 : decide ((j : Int) < (aF.length : Int)) = true := decide_eq_true (by omega)
     have c9b1 : decide (j < aF.length) = true := decide_eq_true hlt
     have p9 : (0 : Int) ≤ (j : Int) := by omega
     have q9 : (j : Int) < (aF.length : Int) := by omega
     obtain ⟨ad, A3, c3, A4, c4, e9, hx0, hx1, hx2, hx3, hx4, l3, g3, l4, g4⟩ := at_fix (Kd.R_reads' HV.out.rF).2.2 (j : Int) p9 q9
     cases e9
     rw [Int.toNat_natCast] at hx0 hx1 hx2 hx3 hx4
     replace p9 := eq_true p9; replace q9 := eq_true q9
     generalize rd_T46 aF (j : Int) = x at *
     go_wp2
     go_roundw
     case rel => exact ⟨j + 1, hlt, by go_num, rfl, ⟨ranges_below HRG.out (below_alloc (Below.refl _ _) _)⟩, ⟨HV.out.below (below_alloc (Below.refl _ _) _)⟩, ⟨Kd.R_alloc HO.out _⟩⟩
     case measure => simp [intOf]; omega
   obtain rfl : c = .slice AT aT.length cT := by
    have e1 := hat zN; rw [HV.out.atT] at e1
    exact (DataW.held.inj e1).symm
   have HI := ranges_iter HRG.out; have HV1 := Aside0.mk (HV.out.grown hg1 HI hsz); have HO1 := Aside0.mk (row_no_iter HO.out hg1 HI); have HRG1 := Aside0.mk hrg1
   have HLT1 := Aside0.mk (show cnt1 < wr.rangeLeft w.heap.size it by rw [HRG.out.left_eq]; exact hlt)
   have HLF := Aside0.mk hleft; have HST1 := HST; clear hat hrg1 hg1 HI HV HO hlt hleft HST HRG; go_wp2
   go_loopw [12, 13, 89] (fun v12 v13 i ws => ∃ (j : Nat) (nt : List S33) (fl : Bool) (x : List S33 × Bool), j ≤ aT.length ∧ i = .int .i64 j ∧ v13 = .bool fl ∧ nt.length ≤ j ∧ Aside0 (denF (aT.drop j) = some x) ∧ Aside0 (nt ++ x.1 = X.1) ∧ Aside0 ((fl || x.2) = X.2) ∧ Aside0 (ws.ranges Tryz.prog 4 RH w.heap.size it acc.length D (fun z => left z && !z.sameKey (.bool true)) cnt1) ∧ Aside0 (ViM w acc.length D (.slice AF aF.length cF) (.slice AT aT.length cT) aF aT ws) ∧ Aside0 (Kd.R k33 33 ws w.heap.size (fun _ => True) v12 nt)) (fun _ _ i _ => aT.length - (intOf i).toNat)
   case atStart =>
    rcases HST1.out with ⟨_, rfl, rfl⟩ | ⟨hf, _⟩
    rotate_left
    · exact absurd (hf.symm.trans HLF.out) (by simp)
    exact ⟨0, [], false, X, Nat.zero_le _, rfl, rfl, Nat.zero_le _, HX, ⟨rfl⟩, ⟨rfl⟩, HRG1, HV1, HO1⟩
   case round =>
    clear HRG1 HV1 HO1 HST1 HLF
    obtain ⟨j, nt, fl, x1, hj, rfl, rfl, hnt, HDN, HNT, HFL, HRG, HV, HO⟩ := hrel
    by_cases hlt : j < aT.length; rotate_left
    ·
     obtain rfl : j = aT.length := by omega
     have c9b0 : decide ((aT.length : Int) < (aT.length : Int)) = false := decide_eq_false (by omega)
     have c9b1 : decide (aT.length < aT.length) = false := decide_eq_false hlt
     have hd := HDN.out; rw [List.drop_length, denF] at hd
     obtain rfl := Option.some.inj hd
     have hn1 : nt = X.1 := by rw [← HNT.out, List.append_nil]
     have hf1 : fl = X.2 := by rw [← HFL.out, Bool.or_false]
     go_wp2
     go_roundw
     case rel =>
      have e1 : ((Lit.bool true).sameKey (.bool true)) = true := by decide
      exact ⟨_, _, nt, fl, rfl, HRG, HV, HO, ⟨.inr ⟨by simp [e1], hn1, hf1⟩⟩⟩
     case measure => rw [HRG.out.left_eq]; exact HLT1.out
    have c9b0 : decide ((j : Int) < (aT.length : Int)) = true := decide_eq_true (by omega)
    have c9b1 : decide (j < aT.length) = true := decide_eq_true hlt
    have p9 : (0 : Int) ≤ (j : Int) := by omega
    have q9 : (j : Int) < (aT.length : Int) := by omega
    obtain ⟨ad, A3, c3, A4, c4, e9, hx0, hx1, hx2, hx3, hx4, l3, g3, l4, g4⟩ := at_fix (Kd.R_reads' HV.out.rT).2.2 (j : Int) p9 q9
    cases e9
    rw [Int.toNat_natCast] at hx0 hx1 hx2 hx3 hx4
    replace p9 := eq_true p9; replace q9 := eq_true q9; have hd := HDN.out
    rw [List.drop_eq_getElem_cons hlt, show aT[j] = rd_T46 aT (j : Int) by simp [rd_T46, List.getD, List.getElem?_eq_getElem hlt], denF] at hd
    generalize rd_T46 aT (j : Int) = x at *
    obtain ⟨x2, hd2, hd⟩ := Option.bind_eq_some_iff.mp hd
    have HD2 := Aside0.mk hd2; have HD3 := Aside0.mk hd; clear hd2 hd HDN
    rcases hf3 : x.f3 with _ | ⟨m, ms⟩
    ·
     have hd3 := HD3.out; rw [hf3] at hd3
     obtain rfl := Option.some.inj hd3
     have e1 : x.f3.length = 0 := by rw [hf3]; rfl
     have e2 : ((x.f3.length : Int) == 0) = true := by rw [e1]; rfl
     clear hd3 HD3 hf3; go_wp2
     go_roundw
     case rel => exact ⟨j + 1, nt, true, x2, hlt, by go_num, rfl, by omega, HD2, HNT, ⟨by have := HFL.out; simpa using this⟩, ⟨ranges_below HRG.out (below_alloc (Below.refl _ _) _)⟩, ⟨HV.out.below (below_alloc (Below.refl _ _) _)⟩, ⟨Kd.R_alloc HO.out _⟩⟩
     case measure => simp [intOf]; omega
    have hd3 := HD3.out; rw [hf3] at hd3
    obtain ⟨⟨o0, o1, o2⟩, ho, hd3⟩ := Option.bind_eq_some_iff.mp hd3
    obtain rfl := Option.some.inj hd3
    have HOT := Aside0.mk ho
    have e1 : 0 < x.f3.length := by rw [hf3]; simp
    have e2 : ((x.f3.length : Int) == 0) = false := beq_eq_false_iff_ne.mpr (by omega)
    have e3 : ((0 : Int) < (x.f3.length : Int)) = True := eq_true (by omega)
    obtain ⟨ad3, e4, hm0, hm1, hm2⟩ := at_T33 (Kd.C_below g3 (HV.out.below (below_alloc (Below.refl _ _) (.cells #[.bool x.f0, .int .i64 x.f1, .string x.f2, .slice A3 x.f3.length c3, .slice A4 x.f4.length c4] 46))).be) 0 (Int.le_refl 0) (by omega)
    rw [show rd_T33 x.f3 0 = m by rw [hf3]; rfl] at hm0 hm1 hm2
    subst e4
    simp only [Int.toNat_zero, Nat.zero_mul, show ad3.add 0 = ad3 by simp [Addr.add]] at hm0 hm1 hm2
    have HRG2 := Aside0.mk (ranges_below HRG.out (below_alloc (Below.refl _ _) (.cells #[.bool x.f0, .int .i64 x.f1, .string x.f2, .slice (some ad3) x.f3.length c3, .slice A4 x.f4.length c4] 46))); have HV2 := Aside0.mk (HV.out.below (below_alloc (Below.refl _ _) (.cells #[.bool x.f0, .int .i64 x.f1, .string x.f2, .slice (some ad3) x.f3.length c3, .slice A4 x.f4.length c4] 46))); have HO2 := Aside0.mk (Kd.R_alloc HO.out (.cells #[.bool x.f0, .int .i64 x.f1, .string x.f2, .slice (some ad3) x.f3.length c3, .slice A4 x.f4.length c4] 46)); clear hd3 HD3 hf3 ho HRG HV HO
    go_wp2_with fail
    refine (policy_other.calls m.f0 m.f1 m.f2 o0 o1 o2 _ HOT.out).mono ?_
    rintro e w5 ⟨rfl, hbl⟩
    replace HRG2 := Aside0.mk (ranges_below HRG2.out hbl)
    replace HV2 := Aside0.mk (HV2.out.below hbl)
    replace HO2 := Aside0.mk (Kd.R_below HO2.out hbl)
    clear hbl HOT hm0 hm1 hm2 hx0 hx1 hx2 hx3 hx4
    go_wp2_with (first | ((with_reducible refine gate_builtin (b := .append) (xs := #[.tmp 93, .tmp 99]) rfl ?_); at_builtin; refine Kd.R_append k33 (w0 := w) w.heap.size rfl (.tmp 93) (.tmp 99) 28 33 (.agg #[(.int .i64 0), (.string ⟨#[]⟩), (.string ⟨#[]⟩)]) 40 rfl Tryz.underlying28 info33 rfl (by decide) (by omega) u12 nt (⟨o0, o1, o2⟩ : S33) [.int .i64 o0, .string o1, .string o2] (fun _ => True) (fun _ => False) rfl rfl (k33_mkM _ _ _ _) (fun _ hh => hh.elim) (fun _ _ => trivial) HO2.out HV2.out.be HV2.out.be.size (by omega) ?_; intro v1 w6 ho6 hb6 hg6 hat6; have HRG3 := Aside0.mk (ranges_beside HRG2.out HO2.out hg6); have HV3 := Aside0.mk (HV2.out.beside HO2.out (by decide) hg6 hb6); have HO3 := Aside0.mk ho6; clear ho6 hb6 hg6 hat6 HRG2 HV2 HO2))
    go_roundw
    case rel => exact ⟨j + 1, nt ++ [(⟨o0, o1, o2⟩ : S33)], fl, x2, hlt, by go_num, rfl, by simp; omega, HD2, ⟨by rw [← HNT.out]; simp⟩, HFL, HRG3, HV3, HO3⟩
    case measure => simp [intOf]; omega
end Go.Proofs.YtkedidjjhhjdbaaGreatDoor.Pr
