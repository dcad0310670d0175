import Derived.Test.YtkedidjjhhjdbaaGreatDoorD0
import Derived.Test.YtkedidjjhhjdbaaGreatDoorD8
import Derived.Test.YtkedidjjhhjdbaaGreatDoorD9
import Derived.Maps.RangeWalk
import Derived.Test.YtkedidjjhhjdbaaGreatDoorD5
import Derived.Test.YtkedidjjhhjdbaaGreatDoorD7
import Derived.Test.YtkedidjjhhjdbaaGreatDoorProg
import Derived.Tactics
import Derived.Tactics2
import Derived.Defers
import Derived.Laws.Pointers
import Derived.Laws.LoneSync
import Derived.RegionTactic
import Derived.RegionCalls
import Derived.ChangeAlike
import Derived.Lib.Hide
import Derived.Test.YtkedidjjhhjdbaaGreatDoorD1
import Derived.Laws.NewBlocks
import Derived.Test.YtkedidjjhhjdbaaGreatDoorD3
import Derived.Below
import Derived.LoopN
import Derived.Deep.MidRow
import Derived.Deep.WholeRow
import Derived.WalkSpells
import Derived.Laws.IdiomStrings
section
set_option linter.unusedVariables false
set_option linter.unusedSimpArgs false
namespace Go.Proofs.YtkedidjjhhjdbaaGreatDoor.Pr
open Go.RowKit Go.Proofs.YtkedidjjhhjdbaaGreatDoorW.PrintWords Go.Proofs.YtkedidjjhhjdbaaGreatDoorW.PrintLast Go.Proofs.YtkedidjjhhjdbaaGreatDoorW.PrintMore
open List renaming setIfInBounds_toArray → LsA, set_cons_zero → LsZ, set_cons_succ → LsS
def fitsF (k : Nat) (viewer : ByteArray) (kind : Int) (r : S46) : Option Bool :=
  (policy_Right.f k r.f0 r.f1 r.f2 r.f3 r.f4).bind fun why => some (decide (why = 0 ∧ (r.f2.toList = ([42] : List UInt8) ∨ r.f2.toList = viewer.toList) ∧ (r.f1 = 0 ∨ r.f1 = kind)))
def pickF (k : Nat) (viewer : ByteArray) (kind : Int) : List S46 → Option (List S46)
  | [] => some []
  | r :: l => (fitsF k viewer kind r).bind fun b => (pickF k viewer kind l).bind fun m => some (if b = true then r :: m else m)
def denF : List S46 → Option (List S33 × Bool)
  | [] => some ([], false)
  | r :: l => (denF l).bind fun x => match r.f3 with
    | [] => some (x.1, true)
    | m :: _ => (policy_other.f m.f0 m.f1 m.f2).bind fun o => some ((⟨o.1, o.2.1, o.2.2⟩ : S33) :: x.1, x.2)
def viewsF (k : Nat) (owner : ByteArray) (nt : List S33) : List S46 → Option (List S31)
  | [] => some []
  | r :: l => (attr_Both.f k r.f3 nt).bind fun b => (viewsF k owner nt l).bind fun m => if b.2 = 0 then (slices_Clone_Str.f r.f4).bind fun h => some ((⟨owner, b.1, h⟩ : S31) :: m) else some m
def policy_Views.f (k : Nat) (l : List S46) (owner viewer : ByteArray) (kind : Int) : Option (List S31) :=
  if l.length < 1048576 then
    (if kind < 1 ∨ kind > 3 then some [] else if viewer.toList = owner.toList then some [(⟨owner, [], []⟩ : S31)] else
      (pickF k viewer kind l).bind fun sel => (denF (sel.filter (fun r => r.f0))).bind fun x => if x.2 = true then some [] else viewsF k owner x.1 (sel.filter (fun r => !r.f0)))
  else none
def RH (v : Value) : Option (DataW Value × List MemPlace) := some (.held v, [])
def zN : DataW Value := .held (.slice none 0 0)
theorem law4 : Go.Maps.Keyed Tryz.prog 4 := Go.Maps.bool_keyed Tryz.underlying4
theorem key4 (b : Bool) : keyOf Tryz.prog 4 (.bool b) = some (.bool b) := Go.Maps.keyOf_bool_mk Tryz.underlying4 b
theorem key4_inv {key : Value} {kl : Lit} (h : keyOf Tryz.prog 4 key = some kl) : ∃ x, key = .bool x ∧ kl = .bool x := by
 cases key <;> simp [keyOf, Tryz.underlying4, mapKey] at h
 obtain rfl := h
 exact ⟨_, rfl, rfl⟩
theorem ownsMap_below {w w' : World} {P : Program} {k : TypeId} {R : Value → Option (DataW Value × List MemPlace)} {b n : Nat} {D : DataW Value} (h : w.ownsMap P k R b n D) (hb : Below w.heap.size w w') : w'.ownsMap P k R b n D := by
 obtain ⟨es, clock, h1, r⟩ := h
 exact ⟨es, clock, (hb.block _ (Array.getElem?_eq_some_iff.1 h1).1).trans h1, r⟩
theorem row_no_map {α : Type} {d : Kd α} {e base : Nat} {ok : Nat → Prop} {w : World} {v : Value} {xs : List α} (h : d.R e w base ok v xs) {P : Program} {k : TypeId} {R : Value → Option (DataW Value × List MemPlace)} {b n : Nat} {D : DataW Value} (hm : w.ownsMap P k R b n D) : d.R e w base (fun k => ok k ∧ k ≠ b) v xs := by
 obtain ⟨es, clock, h1, _⟩ := hm
 refine Kd.R_mono (Kd.R_bound h) (fun k hk => ⟨hk.1, fun e' => ?_⟩)
 obtain ⟨_, _, _, q, _, cells, hc⟩ := hk
 subst e'; rw [h1] at hc; cases hc
structure ViM (w : World) (n : Nat) (D : DataW Value) (vF vT : Value) (aF aT : List S46) (W : World) : Prop where
  be : Below w.heap.size w W
  mp : W.ownsMap Tryz.prog 4 RH w.heap.size n D
  atF : D.atKey (.bool false) zN = .held vF
  atT : D.atKey (.bool true) zN = .held vT
  rF : (Kd.fixed k46 w).R 46 W w.heap.size (fun _ => True) vF aF
  rT : (Kd.fixed k46 w).R 46 W w.heap.size (fun _ => True) vT aT
  ne : ∀ g, vF.ownBlock = some g → vT.ownBlock ≠ some g
theorem ViM.below {w W W' : World} {n : Nat} {D : DataW Value} {vF vT : Value} {aF aT : List S46} (h : ViM w n D vF vT aF aT W) (hb : Below W.heap.size W W') : ViM w n D vF vT aF aT W' :=
 ⟨h.be.trans (hb.mono h.be.size), ownsMap_below h.mp hb, h.atF, h.atT, Kd.R_below h.rF hb, Kd.R_below h.rT hb, h.ne⟩
theorem ViM.new (w : World) : ViM w 0 (.map []) (.slice none 0 0) (.slice none 0 0) [] [] (w.alloc (.map #[] 0)) :=
 ⟨(Below.refl _ _).alloc (Nat.le_refl _) _, World.ownsMap_made _ _ _ _, rfl, rfl, Kd.R_nil _ _ _ _ _, Kd.R_nil _ _ _ _ _, fun g h => by cases h⟩
theorem look_of {W : World} {M n : Nat} {D : DataW Value} {vF vT : Value} (h : W.ownsMap Tryz.prog 4 RH M n D) (hF : D.atKey (.bool false) zN = .held vF) (hT : D.atKey (.bool true) zN = .held vT) (b : Bool) :
  (Instr.lookup 65 (.map (some M)) (.bool b) false).run Tryz.prog W = .ok (if b = true then vT else vF) W := by
 have hz : (zeroValue 22).run Tryz.prog W = .ok (.slice none 0 0) W := Tryz.zeroValue22 W
 obtain ⟨v, ps, hr, hv⟩ := h.lookup law4 Tryz.underlying65 hz (show RH (.slice none 0 0) = some (zN, []) from rfl) (key4 b)
 rw [hr]
 have hv' : DataW.held v = D.atKey (.bool b) zN := (Prod.mk.inj (Option.some.inj hv)).1
 cases b with
 | false =>
  have e : v = vF := by rw [hF] at hv'; exact DataW.held.inj hv'
  rw [e]; rfl
 | true =>
  have e : v = vT := by rw [hT] at hv'; exact DataW.held.inj hv'
  rw [e]; rfl
theorem ViM.look {w W : World} {n : Nat} {D : DataW Value} {vF vT : Value} {aF aT : List S46} (h : ViM w n D vF vT aF aT W) (b : Bool) :
  (Instr.lookup 65 (.map (some w.heap.size)) (.bool b) false).run Tryz.prog W = .ok (if b = true then vT else vF) W := look_of h.mp h.atF h.atT b
theorem ViM.row {w W : World} {n : Nat} {D : DataW Value} {vF vT : Value} {aF aT : List S46} (h : ViM w n D vF vT aF aT W) (b : Bool) :
  (Kd.fixed k46 w).R 46 W w.heap.size (fun _ => True) (if b = true then vT else vF) (if b = true then aT else aF) := by
 cases b
 · exact h.rF
 exact h.rT
theorem atKey_ne {D : DataW Value} {b : Bool} {d : DataW Value} : (D.put (.bool b) d).atKey (.bool (!b)) zN = D.atKey (.bool (!b)) zN :=
 Go.Maps.atKey_put_other (by cases b <;> simp) _ _
theorem atKey_eq {D : DataW Value} (hD : Go.Maps.IsMap D) {b : Bool} {d : DataW Value} : (D.put (.bool b) d).atKey (.bool b) zN = d :=
 Go.Maps.atKey_put_same hD (by simp [WideAt.IsKeyLit]) _ _
theorem ViM.step {w W W1 : World} {n : Nat} {D : DataW Value} {vF vT v1 : Value} {aF aT : List S46} {r : S46} (b : Bool) (h : ViM w n D vF vT aF aT W) (hn : n < 9223372036854775807)
  (hb1 : Below w.heap.size w W1) (hR : (Kd.fixed k46 w).R 46 W1 w.heap.size (fun _ => True) v1 ((if b = true then aT else aF) ++ [r])) (hg : W.grownBy W1 (if b = true then vT else vF).ownBlock)
  (hat : v1.ownBlock = (if b = true then vT else vF).ownBlock ∨ ∃ x, v1.ownBlock = some x ∧ W.heap.size ≤ x) :
  (∀ c, (Instr.lookup 65 (.map (some w.heap.size)) (.bool c) false).run Tryz.prog W1 = .ok (if c = true then vT else vF) W1) ∧ ∃ W2 D2, (Instr.mapUpdate 65 (.map (some w.heap.size)) (.bool b) v1).run Tryz.prog W1 = .ok () W2 ∧ W1.grownBy W2 (some w.heap.size) ∧
   ViM w (n + 1) D2 (if b = true then vF else v1) (if b = true then v1 else vT) (if b = true then aF else aF ++ [r]) (if b = true then aT ++ [r] else aT) W2 := by
 have hrow : ∀ k, (if b = true then vT else vF).ownBlock = some k → k ≠ w.heap.size := by
  intro k hk; cases b
  · exact ((row_no_map h.rF h.mp).1 k hk).2
  exact ((row_no_map h.rT h.mp).1 k hk).2
 have m1 : W1.ownsMap Tryz.prog 4 RH w.heap.size n D := h.mp.kept hg (fun e => hrow _ e.symm rfl)
 obtain ⟨W2, hrun, m2, g2⟩ := m1.update law4 Tryz.underlying65 hn (key4 b) (show RH v1 = some (.held v1, []) from rfl)
 have hR2 := Kd.R_mono (Kd.R_grown (row_no_map hR m1) g2 (fun k hk e => hk.2 (by simpa using e))) (fun _ _ => trivial)
 have hD : Go.Maps.IsMap D := h.mp.isMap
 have hold : ∀ {v : Value} {xs : List S46}, (Kd.fixed k46 w).R 46 W w.heap.size (fun _ => True) v xs → (∀ g, (if b = true then vT else vF).ownBlock = some g → v.ownBlock ≠ some g) → (Kd.fixed k46 w).R 46 W2 w.heap.size (fun _ => True) v xs := by
  intro v xs hv hne
  have q1 := Kd.R_grown (Kd.R_tight rfl hv) hg (fun k hk e => hne k e.symm hk.symm)
  exact Kd.R_mono (Kd.R_grown (row_no_map q1 m1) g2 (fun k hk e => hk.2 (by simpa using e))) (fun _ _ => trivial)
 have hbe : Below w.heap.size w W2 := hb1.grown g2 hb1.size (fun j hj => by cases hj; exact Nat.le_refl _)
 refine ⟨look_of m1 h.atF h.atT, W2, D.put (.bool b) (.held v1), hrun, g2, ?_⟩
 cases b with
 | false =>
  refine ⟨hbe, m2, atKey_eq hD, (atKey_ne (b := false)).trans h.atT, hR2, hold h.rT (fun g hg' => h.ne g hg'), fun g hg' e => ?_⟩
  rcases hat with hat | ⟨x, hx, hle⟩
  · exact h.ne g (hat ▸ hg') e
  have hlt := Kd.R_lt h.rT g e
  have : x = g := Option.some.inj (hx.symm.trans hg')
  omega
 | true =>
  refine ⟨hbe, m2, (atKey_ne (b := true)).trans h.atF, atKey_eq hD, hold h.rF (fun g hg' e => h.ne g e hg'), hR2, fun g hg' e => ?_⟩
  rcases hat with hat | ⟨x, hx, hle⟩
  · exact h.ne g hg' (hat ▸ e)
  have hlt := Kd.R_lt h.rF g hg'
  have : x = g := Option.some.inj (hx.symm.trans e)
  omega
theorem at_fix {w W : World} {A : Option Addr} {n : Nat} {xs : List S46} (h : (Kd.fixed k46 w).C W A n xs) (i : Int) (h0 : 0 ≤ i) (h1 : i < n) : ∃ ad A3 c3 A4 c4, A = some ad ∧ W.cell? (ad.add (i.toNat * 5)) = some (.bool (rd_T46 xs i).f0) ∧ W.cell? ⟨(ad.add (i.toNat * 5)).block, (ad.add (i.toNat * 5)).off + 1, none⟩ = some (.int .i64 (rd_T46 xs i).f1) ∧ W.cell? ⟨(ad.add (i.toNat * 5)).block, (ad.add (i.toNat * 5)).off + 2, none⟩ = some (.string (rd_T46 xs i).f2) ∧ W.cell? ⟨(ad.add (i.toNat * 5)).block, (ad.add (i.toNat * 5)).off + 3, none⟩ = some (.slice A3 (rd_T46 xs i).f3.length c3) ∧ W.cell? ⟨(ad.add (i.toNat * 5)).block, (ad.add (i.toNat * 5)).off + 4, none⟩ = some (.slice A4 (rd_T46 xs i).f4.length c4) ∧ (rd_T46 xs i).f3.length ≤ c3 ∧ k33.C w A3 (rd_T46 xs i).f3.length (rd_T46 xs i).f3 ∧ (rd_T46 xs i).f4.length ≤ c4 ∧ Kd.string.C w A4 (rd_T46 xs i).f4.length (rd_T46 xs i).f4 := by
 obtain ⟨ad, c, e, _, hK, hc0⟩ := Kd.C_get h z46 i h0 h1
 have hc : ∀ j u, c[j]? = some u → W.cell? (ad.add (i.toNat * 5 + j)) = some u := hc0
 obtain ⟨A3, c3, A4, c4, rfl, l3, g3, l4, g4⟩ := k46_open hK
 exact ⟨ad, A3, c3, A4, c4, e, hc 0 _ rfl, by rw [← add_field _ _ 1 (by omega)]; exact hc 1 _ rfl, by rw [← add_field _ _ 2 (by omega)]; exact hc 2 _ rfl, by rw [← add_field _ _ 3 (by omega)]; exact hc 3 _ rfl, by rw [← add_field _ _ 4 (by omega)]; exact hc 4 _ rfl, l3, g3, l4, g4⟩
theorem ranges_below {w w' : World} {P : Program} {k : TypeId} {R : Value → Option (DataW Value × List MemPlace)} {b r n : Nat} {D : DataW Value} {left : Lit → Bool} {cnt : Nat} (h : w.ranges P k R b r n D left cnt) (hb : Below w.heap.size w w') : w'.ranges P k R b r n D left cnt := by
 obtain ⟨es, clock, since, seen, c0, h1, h2, h3, h4, h5, r⟩ := h
 exact ⟨es, clock, since, seen, c0, (hb.block _ (Array.getElem?_eq_some_iff.1 h1).1).trans h1, h2, h3, h4, (hb.block _ (Array.getElem?_eq_some_iff.1 h5).1).trans h5, r⟩
theorem ViM.no_true {w W : World} {n : Nat} {D : DataW Value} {vF vT : Value} {aF aT : List S46} (h : ViM w n D vF vT aF aT W) (hn : Go.Maps.has D (.bool true) = false) : aT = [] := by
 have e := h.atT; rw [Go.Maps.atKey_of_not_has hn] at e
 have e' : vT = .slice none 0 0 := (DataW.held.inj e).symm
 subst e'
 have := Kd.R_reads' h.rT
 exact List.eq_nil_of_length_eq_zero this.1.symm
theorem row_no_iter {α : Type} {d : Kd α} {e base : Nat} {ok : Nat → Prop} {W W' : World} {v : Value} {xs : List α} (hv : d.R e W base ok v xs) {it : Nat} (hg : W.grownBy W' (some it)) (hi : ∃ o m s c, W.heap[it]? = some (.mapIter o m s c)) : d.R e W' base ok v xs := by
 obtain ⟨o, m, s, c, hi⟩ := hi
 refine Kd.R_mono (Kd.R_grown (Kd.R_bound hv) hg (fun k hk e => ?_)) (fun _ hk => hk.1)
 obtain ⟨_, _, _, q, _, cells, hc⟩ := hk
 have e' : k = it := by simpa using e
 subst e'; rw [hi] at hc; cases hc
theorem ranges_iter {w : World} {P : Program} {k : TypeId} {R : Value → Option (DataW Value × List MemPlace)} {b r n : Nat} {D : DataW Value} {left : Lit → Bool} {cnt : Nat} (h : w.ranges P k R b r n D left cnt) : ∃ o m s c, w.heap[r]? = some (.mapIter o m s c) := by
 obtain ⟨es, clock, since, seen, c0, h1, h2, h3, h4, h5, _⟩ := h
 exact ⟨_, _, _, _, h5⟩
theorem ViM.grown {w W W' : World} {n it : Nat} {D : DataW Value} {vF vT : Value} {aF aT : List S46} (h : ViM w n D vF vT aF aT W) (hg : W.grownBy W' (some it)) (hi : ∃ o m s c, W.heap[it]? = some (.mapIter o m s c)) (hlt : w.heap.size < it) : ViM w n D vF vT aF aT W' := by
 obtain ⟨o, m, s, c, hi⟩ := hi
 have hrow : ∀ {v : Value} {xs : List S46}, (Kd.fixed k46 w).R 46 W w.heap.size (fun _ => True) v xs → (Kd.fixed k46 w).R 46 W' w.heap.size (fun _ => True) v xs := by
  intro v xs hv
  refine Kd.R_mono (Kd.R_grown (Kd.R_bound hv) hg (fun k hk e => ?_)) (fun _ _ => trivial)
  obtain ⟨_, _, _, q, _, cells, hc⟩ := hk
  have e' : k = it := by simpa using e
  subst e'; rw [hi] at hc; cases hc
 exact ⟨h.be.grown hg h.be.size (fun j hj => by cases hj; omega), h.mp.kept hg (by simp; omega), h.atF, h.atT, hrow h.rF, hrow h.rT, h.ne⟩
theorem ViM.beside {α : Type} {d : Kd α} {e : Nat} {w W W' : World} {n : Nat} {D : DataW Value} {vF vT v : Value} {aF aT : List S46} {nt : List α} (h : ViM w n D vF vT aF aT W) (hO : d.R e W w.heap.size (fun _ => True) v nt) (he : e ≠ 46) (hg : W.grownBy W' v.ownBlock) (hb : Below w.heap.size w W') : ViM w n D vF vT aF aT W' := by
 have hrow : ∀ {u : Value} {xs : List S46}, (Kd.fixed k46 w).R 46 W w.heap.size (fun _ => True) u xs → (Kd.fixed k46 w).R 46 W' w.heap.size (fun _ => True) u xs := by
  intro u xs hv
  refine Kd.R_mono (Kd.R_grown (Kd.R_bound hv) hg (fun k hk e' => ?_)) (fun _ _ => trivial)
  obtain ⟨_, _, _, q, hq, cells, hc⟩ := hk
  obtain ⟨cs, hc2⟩ := Kd.R_typed hO k e'.symm
  rw [hc] at hc2
  have hq' : q = e := by injection hc2 with h1; injection h1
  subst hq'
  simp [Kd.fixed] at hq
  exact he hq
 refine ⟨hb, h.mp.kept hg (fun e => ?_), h.atF, h.atT, hrow h.rF, hrow h.rT, h.ne⟩
 obtain ⟨cs, hc⟩ := Kd.R_typed hO _ e.symm
 obtain ⟨es, clock, h1, _⟩ := h.mp
 rw [h1] at hc; cases hc
theorem ranges_beside {w W W' : World} {n it : Nat} {D : DataW Value} {v : Value} {nt : List S33} {left : Lit → Bool} {cnt : Nat} (h : W.ranges Tryz.prog 4 RH w.heap.size it n D left cnt) (hO : Kd.R k33 33 W w.heap.size (fun _ => True) v nt) (hg : W.grownBy W' v.ownBlock) : W'.ranges Tryz.prog 4 RH w.heap.size it n D left cnt := by
 refine h.kept hg (fun e => ?_) (fun e => ?_)
 ·
  obtain ⟨cs, hc⟩ := Kd.R_typed hO _ e.symm
  obtain ⟨es, clock, h1, _⟩ := h.owns
  rw [h1] at hc; cases hc
 obtain ⟨cs, hc⟩ := Kd.R_typed hO _ e.symm
 obtain ⟨_, _, _, _, h1⟩ := ranges_iter h
 rw [h1] at hc; cases hc
theorem WRow.below {w w' : World} {base : Nat} {ok : Nat → Prop} {v : Value} {xs : List S33} (h : WRow w base ok v xs) (hb : Below w.heap.size w w') : WRow w' base ok v xs := by
 obtain ⟨A, c, rfl, hc, hm, h⟩ := h
 refine ⟨A, c, rfl, hc, hm, ?_⟩
 rcases h with rfl | ⟨g, cur, rfl, hg, hbb, hh, ht⟩
 · exact .inl rfl
 exact .inr ⟨g, cur, rfl, hg, hbb, blk_below hh hb, ht⟩
theorem WRow.lower {w : World} {base base' : Nat} {ok : Nat → Prop} {v : Value} {xs : List S33} (h : WRow w base ok v xs) (hb : base' ≤ base) : WRow w base' ok v xs := by
 obtain ⟨A, c, rfl, hc, hm, h⟩ := h
 refine ⟨A, c, rfl, hc, hm, ?_⟩
 rcases h with rfl | ⟨g, cur, rfl, hg, hbb, r⟩
 · exact .inl rfl
 exact .inr ⟨g, cur, rfl, hg, Nat.le_trans hb hbb, r⟩
theorem WRow.apart {w : World} {base : Nat} {ok : Nat → Prop} {v u : Value} {xs : List S33} (h : WRow w base ok v xs) {e : Nat} (hty : ∀ k, u.ownBlock = some k → ∃ cells, w.heap[k]? = some (.cells cells e (0, 0))) (he : e ≠ 33) : WRow w base (fun k => some k ≠ u.ownBlock) v xs := by
 obtain ⟨A, c, rfl, hc, hm, h⟩ := h
 refine ⟨A, c, rfl, hc, hm, ?_⟩
 rcases h with rfl | ⟨g, cur, rfl, hg, hbb, hh, ht⟩
 · exact .inl rfl
 refine .inr ⟨g, cur, rfl, fun e' => ?_, hbb, hh, ht⟩
 obtain ⟨cells, hc2⟩ := hty g e'.symm
 rw [hh] at hc2
 injection hc2 with h1
 injection h1 with _ h2
 exact he h2.symm
theorem WRow.slice {w : World} {base : Nat} {ok : Nat → Prop} {v : Value} {xs : List S33} (h : WRow w base ok v xs) : ∃ A c, v = .slice A xs.length c := by
 obtain ⟨A, c, rfl, _⟩ := h
 exact ⟨A, c, rfl⟩
structure Pk (p : Prop) : Prop where
  out : p
theorem next_groups {wr : World} {ops : Array Oper} {rest : List Oper} {o : Oper} {a : Act} {Q : Exit → Act → World → Prop} (hg : o.guard = none) (itm : Operand) (hop : o.op = Op.next itm false) (M it n : Nat) (D : DataW Value) (left : Lit → Bool) (cnt : Nat)
  (hit : a.eval itm = .pointer (some ⟨it, 0, none⟩)) (h : wr.ranges Tryz.prog 4 RH M it n D left cnt)
  (hDone : Pk ((∀ kl, left kl = false) → wpList Tryz.prog ops Q rest (a.put o.dst (.tuple #[.bool false])) wr))
  (hMore : Pk (∀ (b : Bool) (c : Value) (w' : World) (cnt' : Nat), left (.bool b) = true → (∀ zd, D.atKey (.bool b) zd = .held c) → w'.ranges Tryz.prog 4 RH M it n D (fun z => left z && !z.sameKey (.bool b)) cnt' → cnt' < cnt →
   wr.grownBy w' (some it) → (Instr.entry (.pointer (some ⟨it, 0, none⟩))).run Tryz.prog w' = .ok (.tuple #[.bool b, c]) w' → wpList Tryz.prog ops Q rest (a.put o.dst (.tuple #[.bool true, .bool b, c])) w')) :
  wpList Tryz.prog ops Q (o :: rest) a wr := by
 refine wpList_next_ranges wr hg itm hop 4 law4 RH Value.bool id (fun key kl hk => by obtain ⟨x, e, _⟩ := key4_inv hk; exact ⟨x, e⟩) (fun v y _ => ⟨v, rfl⟩) M it n D left cnt hit h (fun _ hl => hDone.out hl) ?_
 intro b c kl y w1 cnt1 hkey hleft hR hat hrg1 hlt hg1 _ hen
 obtain rfl : kl = .bool b := Option.some.inj (hkey.symm.trans (key4 b))
 have e0 : y = (.held c, []) := (Option.some.inj hR).symm
 subst e0; exact hMore.out b c w1 cnt1 hleft hat hrg1 hlt hg1 hen
theorem kV_one (w : World) (a : ByteArray) : Kd.R kV 31 (w.alloc (.cells #[.string a, .slice none 0 0, .slice none 0 0] 31)) w.heap.size (fun _ => True) (.slice (some ⟨w.heap.size, 0, none⟩) 1 1) [(⟨a, [], []⟩ : S31)] := by
 refine ⟨fun _ _ => trivial, [.string a, .slice none 0 0, .slice none 0 0], ⟨rfl, .inr ⟨w.heap.size, 1, _, rfl, Nat.le_refl _, blk_new _ _, Nat.le_refl _, by unfold maxLen; omega, rfl, rfl⟩⟩, rfl, fun j p hj => ?_⟩
 have h0 : j = 0 := by
  have := (List.getElem?_eq_some_iff.1 hj).1
  simp at this
  exact this
 subst h0
 obtain rfl : _ = p := by simpa using hj
 exact kV_mkM _ _ _ _ ⟨none, 0, rfl, Nat.le_refl _, by simp, .inl rfl⟩ (Kd.R_nil _ _ _ _ _)
set_option maxHeartbeats 8000000 in
set_option maxRecDepth 100000 in
theorem policy_Views.calls (k : Nat) (A0 : Option Addr) (c0 : Nat) (l0 : List S46) (a1 a2 : ByteArray) (a3 : Int) (r : List S31) (w : World) (hr0 : Kd.C k46 w A0 l0.length l0) (hc0 : l0.length ≤ c0) (h : policy_Views.f k l0 a1 a2 a3 = some r)
  (he_ : EnvW w := by repeat (first | with_reducible assumption | with_reducible exact env_of (by with_reducible assumption) (by with_reducible assumption) | with_reducible exact env_out (by with_reducible assumption) | with_reducible apply env_alloc | with_reducible apply env_drewN | with_reducible apply env_drew | with_reducible refine env_set ?_ (by with_reducible assumption) (by with_reducible assumption))) :
  Calls Tryz.prog 11 #[.slice A0 l0.length c0, .string a1, .string a2, .int .i64 a3] w fun e w' => ∃ v0_ : Value, e = .returned v0_ ∧ Kd.R kV 31 w' w.heap.size (fun _ => True) v0_ r ∧ Below w.heap.size w w' := by
 unfold policy_Views.f at h
 by_cases hl : l0.length < 1048576; rotate_left
 · rw [if_neg hl] at h; cases h
 rw [if_pos hl] at h; have hu46 := Tryz.underlying46; have hu31 := Tryz.underlying31; have hmm := @run_makeMap Tryz.prog; have HR0 := Aside0.mk hr0; have HE := Aside0.mk he_; have HL := Aside0.mk hl; clear hr0 he_ hl; by_cases c1 : a3 < 1 ∨ a3 > 3
 ·
  rw [if_pos c1] at h
  obtain rfl := Option.some.inj h
  clear h; by_cases c2 : a3 < 1
  ·
   have e1 : decide (a3 < 1) = true := decide_eq_true c2
   clear c1 c2
   go_enter Tryz.func11, Tryz.ntmps11
   go_wp2; go_ret
   exact ⟨_, rfl, Kd.R_nil _ _ _ _ _, Below.refl _ _⟩
  have e1 : decide (a3 < 1) = false := decide_eq_false c2
  have e2 : decide (3 < a3) = true := decide_eq_true (by omega)
  clear c1 c2
  go_enter Tryz.func11, Tryz.ntmps11
  go_wp2; go_ret
  exact ⟨_, rfl, Kd.R_nil _ _ _ _ _, Below.refl _ _⟩
 rw [if_neg c1] at h
 have e1 : decide (a3 < 1) = false := decide_eq_false (by omega)
 have e2 : decide (3 < a3) = false := decide_eq_false (by omega)
 clear c1; by_cases c3 : a2.toList = a1.toList
 ·
  rw [if_pos c3] at h
  obtain rfl := Option.some.inj h
  have e3 : (a2.toList == a1.toList) = true := beq_iff_eq.mpr c3
  clear h c3
  go_enter Tryz.func11, Tryz.ntmps11
  go_wp2; go_ret
  exact ⟨_, rfl, kV_one w a1, (Below.refl _ _).alloc (Nat.le_refl _) _⟩
 rw [if_neg c3] at h
 have e3 : (a2.toList == a1.toList) = false := beq_eq_false_iff_ne.mpr c3
 clear c3
 obtain ⟨sel, hs, h⟩ := Option.bind_eq_some_iff.mp h
 have HS := Aside0.mk hs; have HH := Aside0.mk h; clear hs h
 go_enter Tryz.func11, Tryz.ntmps11
 go_wp2
 go_loopw [40] (fun i wr => ∃ (j : Nat) (acc m : List S46) (D : DataW Value) (vF vT : Value), j ≤ l0.length ∧ i = .int .i64 j ∧ acc.length ≤ j ∧ Aside0 (pickF k a2 a3 (l0.drop j) = some m) ∧ Aside0 (acc ++ m = sel) ∧ Aside0 (ViM w acc.length D vF vT (acc.filter (fun r => !r.f0)) (acc.filter (fun r => r.f0)) wr)) (fun i _ => l0.length - (intOf i).toNat)
 case atStart => exact ⟨0, [], sel, _, _, _, Nat.zero_le _, rfl, Nat.le_refl _, HS, ⟨rfl⟩, ⟨ViM.new w⟩⟩
 case round =>
  obtain ⟨j, acc, m, D, vF, vT, hj, rfl, haj, HP, HA, HV⟩ := hrel
  clear HS; by_cases hlt : j < l0.length
  ·
   have c9b0 : decide ((j : Int) < (l0.length : Int)) = true := decide_eq_true (by omega)
   have c9b1 : decide (j < l0.length) = true := decide_eq_true hlt
   have p9 : (0 : Int) ≤ (j : Int) := by omega
   have q9 : (j : Int) < (l0.length : Int) := by omega
   obtain ⟨ad, A3, c3, A4, c4, e9, h0, h1, h2, h3, h4, l3, g3, l4, g4⟩ := at_T46 HR0.out (j : Int) p9 q9
   cases e9
   rw [Int.toNat_natCast] at h0 h1 h2 h3 h4
   have hx0 := (HV.out.be.cell (cell_place h0).2).trans h0; have hx1 := (HV.out.be.cell (cell_place h1).2).trans h1; have hx2 := (HV.out.be.cell (cell_place h2).2).trans h2; have hx3 := (HV.out.be.cell (cell_place h3).2).trans h3; have hx4 := (HV.out.be.cell (cell_place h4).2).trans h4; have HKM := Aside0.mk (k46_mk w (rd_T46 l0 (j : Int)) l3 g3 l4 g4); have HG3 := Aside0.mk g3; have HG4 := Aside0.mk g4; clear h0 h1 h2 h3 h4 g3 g4; replace p9 := eq_true p9; replace q9 := eq_true q9
   go_upto_region 9 with (fail)
   rw [List.drop_eq_getElem_cons hlt, show l0[j] = rd_T46 l0 (j : Int) by simp [rd_T46, List.getD, List.getElem?_eq_getElem hlt], pickF] at HP
   generalize rd_T46 l0 (j : Int) = x at *
   obtain ⟨b, hb, hp⟩ := Option.bind_eq_some_iff.mp HP.out
   obtain ⟨m1, hm1, hp⟩ := Option.bind_eq_some_iff.mp hp
   have hmm1 := Option.some.inj hp
   unfold fitsF at hb
   obtain ⟨why, hw, hb⟩ := Option.bind_eq_some_iff.mp hb
   have hbb := Option.some.inj hb; have HM1 := Aside0.mk hm1; have HMM := Aside0.mk hmm1; have HW := Aside0.mk hw; have HBB := Aside0.mk hbb; clear hb hp HP hm1 hmm1 hw hbb; have HV1 := Aside0.mk (HV.out.below (below_alloc (Below.refl _ _) (.cells #[.bool x.f0, .int .i64 x.f1, .string x.f2, .slice A3 x.f3.length c3, .slice A4 x.f4.length c4] 46))); have BK := Aside0.mk (blk_new wr (.cells #[.bool x.f0, .int .i64 x.f1, .string x.f2, .slice A3 x.f3.length c3, .slice A4 x.f4.length c4] 46))
   generalize wr.alloc (.cells #[.bool x.f0, .int .i64 x.f1, .string x.f2, .slice A3 x.f3.length c3, .slice A4 x.f4.length c4] 46) = W1 at HV1 BK ⊢
   have HLT : Aside0 (∀ c : Bool, ∀ k, (if c = true then vT else vF : Value).ownBlock = some k → k < wr.heap.size) := ⟨fun c k hk => Kd.R_lt (HV.out.row c) k hk⟩
   generalize wr.heap.size = g at BK HLT ⊢
   go_cut [68] (fun v68 wc => v68 = .bool b ∧ Aside0 (ViM w acc.length D vF vT (acc.filter (fun r => !r.f0)) (acc.filter (fun r => r.f0)) wc) ∧ Aside0 (wc.heap[g]? = some (.cells #[.bool x.f0, .int .i64 x.f1, .string x.f2, .slice A3 x.f3.length c3, .slice A4 x.f4.length c4] 46 (0, 0))))
   case first =>
    clear HV hx0 hx1 hx2 hx3 hx4; have hx0 := (blk_cell BK.out 0).trans rfl; have hx1 := (blk_cell BK.out 1).trans rfl; have hx2 := (blk_cell BK.out 2).trans rfl; have hx3 := (blk_cell BK.out 3).trans rfl; have hx4 := (blk_cell BK.out 4).trans rfl
    go_wp2_with fail
    refine (policy_Right.calls k x.f0 x.f1 x.f2 A3 c3 x.f3 A4 c4 x.f4 why _ (Kd.C_below HG3.out HV1.out.be) l3 (Kd.C_below HG4.out HV1.out.be) l4 HW.out (env_below HE.out HV1.out.be)).mono ?_
    rintro e w2 ⟨rfl, hbl⟩
    replace HV1 := Aside0.mk (HV1.out.below hbl)
    replace BK := Aside0.mk (blk_below BK.out hbl)
    clear hbl hx0 hx1 hx2 hx3 hx4; have hx1 := (blk_cell BK.out 1).trans rfl; have hx2 := (blk_cell BK.out 2).trans rfl; have hbb := HBB.out; clear HBB; by_cases d1 : why = 0; rotate_left
    ·
     have f1 : (why == 0) = false := beq_eq_false_iff_ne.mpr d1
     obtain rfl : b = false := by rw [← hbb]; exact decide_eq_false (fun hh => d1 hh.1)
     clear hbb d1; go_wp2
     go_meet
     case rel => exact ⟨rfl, HV1, BK⟩
    subst d1; by_cases d2 : x.f2.toList = ([42] : List UInt8)
    ·
     have f2 : (x.f2.toList == ([42] : List UInt8)) = true := beq_iff_eq.mpr d2
     by_cases d4 : x.f1 = 0
     ·
      have f4 : (x.f1 == 0) = true := beq_iff_eq.mpr d4
      obtain rfl : b = true := by rw [← hbb]; exact decide_eq_true ⟨rfl, .inl d2, .inl d4⟩
      clear hbb d2 d4; go_wp2
      go_meet
      case rel => exact ⟨rfl, HV1, BK⟩
     have f4 : (x.f1 == 0) = false := beq_eq_false_iff_ne.mpr d4
     by_cases d5 : x.f1 = a3
     ·
      have f5 : (x.f1 == a3) = true := beq_iff_eq.mpr d5
      obtain rfl : b = true := by rw [← hbb]; exact decide_eq_true ⟨rfl, .inl d2, .inr d5⟩
      clear hbb d2 d4 d5; go_wp2
      go_meet
      case rel => exact ⟨rfl, HV1, BK⟩
     have f5 : (x.f1 == a3) = false := beq_eq_false_iff_ne.mpr d5
     obtain rfl : b = false := by rw [← hbb]; exact decide_eq_false (fun hh => hh.2.2.elim d4 d5)
     clear hbb d2 d4 d5; go_wp2
     go_meet
     case rel => exact ⟨rfl, HV1, BK⟩
    have f2 : (x.f2.toList == ([42] : List UInt8)) = false := beq_eq_false_iff_ne.mpr d2
    by_cases d3 : x.f2.toList = a2.toList; rotate_left
    ·
     have f3 : (x.f2.toList == a2.toList) = false := beq_eq_false_iff_ne.mpr d3
     obtain rfl : b = false := by rw [← hbb]; exact decide_eq_false (fun hh => hh.2.1.elim d2 d3)
     clear hbb d2 d3; go_wp2
     go_meet
     case rel => exact ⟨rfl, HV1, BK⟩
    have f3 : (x.f2.toList == a2.toList) = true := beq_iff_eq.mpr d3
    by_cases d4 : x.f1 = 0
    ·
     have f4 : (x.f1 == 0) = true := beq_iff_eq.mpr d4
     obtain rfl : b = true := by rw [← hbb]; exact decide_eq_true ⟨rfl, .inr d3, .inl d4⟩
     clear hbb d2 d3 d4; go_wp2
     go_meet
     case rel => exact ⟨rfl, HV1, BK⟩
    have f4 : (x.f1 == 0) = false := beq_eq_false_iff_ne.mpr d4
    by_cases d5 : x.f1 = a3
    ·
     have f5 : (x.f1 == a3) = true := beq_iff_eq.mpr d5
     obtain rfl : b = true := by rw [← hbb]; exact decide_eq_true ⟨rfl, .inr d3, .inr d5⟩
     clear hbb d2 d3 d4 d5; go_wp2
     go_meet
     case rel => exact ⟨rfl, HV1, BK⟩
    have f5 : (x.f1 == a3) = false := beq_eq_false_iff_ne.mpr d5
    obtain rfl : b = false := by rw [← hbb]; exact decide_eq_false (fun hh => hh.2.2.elim d4 d5)
    clear hbb d2 d3 d4 d5; go_wp2
    go_meet
    case rel => exact ⟨rfl, HV1, BK⟩
   clear HV HV1 BK
   obtain ⟨rfl, HV, BK⟩ := hcut
   have hmm1 := HMM.out; clear HMM; by_cases c1 : b = true; rotate_left
   ·
    obtain rfl : b = false := Bool.eq_false_iff.mpr c1
    rw [if_neg c1] at hmm1; subst hmm1; have hl9 := HL.out; go_wp2
    go_roundw
    case rel => exact ⟨j + 1, acc, m1, D, vF, vT, hlt, by go_num, by omega, HM1, HA, HV⟩
    case measure => simp [intOf]; omega
   subst c1; rw [if_pos rfl] at hmm1; have hl9 := HL.out
   replace HV := Aside0.mk (HV.out.below (below_drew (Below.refl _ _)))
   have hlk := HV.out.look x.f0
   go_upto_region 10 with (fail)
   refine start_ (n := 11) (S := fun w' => w'.heap[g]? = some (.cells #[.bool x.f0, .int .i64 x.f1, .string x.f2, .slice A3 x.f3.length c3, .slice A4 x.f4.length c4] 46 (0, 0)) ∧ (Instr.lookup 65 (.map (some w.heap.size)) (.bool x.f0) false).run Tryz.prog w' = .ok (if x.f0 = true then vT else vF) w') (ds := [10]) (bA 11 0) (by kernel_rfl) rfl rfl ⟨BK.out, hlk⟩ (fun hHeld => ?_)
   replace BK : Aside0 (wc.drew.heap[g]? = some (.cells #[.bool x.f0, .int .i64 x.f1, .string x.f2, .slice A3 x.f3.length c3, .slice A4 x.f4.length c4] 46 (0, 0))) := ⟨BK.out⟩
   clear hlk
   generalize wc.drew = Wd at HV BK hHeld ⊢
   refine pure_ (i := 0) (N := some 69) (v := ?_) (a' := ?_) (bA 11 1) rfl rfl (by kernel_rfl) (fun _ _ _ h => h) (Or.inl ⟨by rfl, ?_⟩) ?_ ?_
   rotate_left
   · intro w'; go_simp; with_reducible rfl
   rotate_left
   · simp only [Act.put, LsA, LsZ, LsS, i64_w, i32_w]; rfl
   refine pure_ (i := 1) (N := some 70) (v := ?_) (a' := ?_) (bA 11 3) rfl rfl (by kernel_rfl) (fun _ _ _ h => h) (Or.inl ⟨by rfl, ?_⟩) ?_ ?_
   rotate_left
   · intro w'; go_simp; with_reducible rfl
   rotate_left
   · simp only [Act.put, LsA, LsZ, LsS, i64_w, i32_w]; rfl
   refine pure_ (i := 3) (N := some 72) (v := ?_) (a' := ?_) (bA 11 11) rfl rfl (by kernel_rfl) (fun _ _ _ h => h) (Or.inl ⟨by rfl, ?_⟩) ?_ ?_
   rotate_left
   · intro w'; go_simp; with_reducible rfl
   rotate_left
   · simp only [Act.put, LsA, LsZ, LsS, i64_w, i32_w]; rfl
   refine pure_ (i := 4) (N := some 73) (v := ?_) (a' := ?_) (bA 11 27) rfl rfl (by kernel_rfl) (fun _ _ _ h => h) (Or.inl ⟨by rfl, ?_⟩) ?_ ?_
   rotate_left
   · intro w'; go_simp; with_reducible rfl
   rotate_left
   · simp only [Act.put, LsA, LsZ, LsS, i64_w, i32_w]; rfl
   refine take_ (i := 2) (N := some 71) (v := ?_) (a' := ?_) (bA 11 31) rfl rfl (by kernel_rfl) (fun _ _ _ h => h) (Or.inl ⟨by rfl, ?_⟩) hHeld ?_ ?_
   rotate_left
   ·
    rintro w' ⟨s0, s1⟩
    have q0 := (blk_cell s0 0).trans rfl; have q1 := (blk_cell s0 1).trans rfl; have q2 := (blk_cell s0 2).trans rfl; have q3 := (blk_cell s0 3).trans rfl; have q4 := (blk_cell s0 4).trans rfl; go_simp; with_reducible rfl
   rotate_left
   · simp only [Act.put, LsA, LsZ, LsS, i64_w, i32_w]; rfl
   refine take_ (i := 5) (N := some 74) (v := ?_) (a' := ?_) (bA 11 63) rfl rfl (by kernel_rfl) (fun _ _ _ h => h) (Or.inl ⟨by rfl, ?_⟩) hHeld ?_ ?_
   rotate_left
   ·
    rintro w' ⟨s0, s1⟩
    have q0 := (blk_cell s0 0).trans rfl; have q1 := (blk_cell s0 1).trans rfl; have q2 := (blk_cell s0 2).trans rfl; have q3 := (blk_cell s0 3).trans rfl; have q4 := (blk_cell s0 4).trans rfl; go_simp; with_reducible rfl
   rotate_left
   · simp only [Act.put, LsA, LsZ, LsS, i64_w, i32_w]; rfl
   refine take_ (i := 6) (N := some 75) (v := ?_) (a' := ?_) (bA 11 127) rfl rfl (by kernel_rfl) (fun _ _ _ h => h) (Or.inl ⟨by rfl, ?_⟩) hHeld ?_ ?_
   rotate_left
   ·
    rintro w' ⟨s0, s1⟩
    go_simp; with_reducible rfl
   rotate_left
   · simp only [Act.put, LsA, LsZ, LsS, i64_w, i32_w]; rfl
   refine take_ (i := 7) (N := some 76) (v := ?_) (a' := ?_) (bA 11 255) rfl rfl (by kernel_rfl) (fun _ _ _ h => h) (Or.inl ⟨by rfl, ?_⟩) hHeld ?_ ?_
   rotate_left
   ·
    rintro w' ⟨s0, s1⟩
    have q0 := (blk_cell s0 0).trans rfl; have q1 := (blk_cell s0 1).trans rfl; have q2 := (blk_cell s0 2).trans rfl; have q3 := (blk_cell s0 3).trans rfl; have q4 := (blk_cell s0 4).trans rfl; go_simp; with_reducible rfl
   rotate_left
   · simp only [Act.put, LsA, LsZ, LsS, i64_w, i32_w]; rfl
   refine one_ (i := 8) (N := some 77) (bA 11 511) rfl rfl (by kernel_rfl) (by decide) (fun K hK => ?_)
   go_simp
   refine hK.out _ _ ⟨blk_alloc BK.out _, (HV.out.below (below_alloc (Below.refl _ _) _)).look x.f0⟩ (fun hHeld => ?_)
   clear hK K
   refine one_ (i := 9) (N := some 78) (bA 11 1023) rfl rfl (by kernel_rfl) (by decide) (fun K hK => ?_)
   refine Kd.R_append_step (Kd.fixed k46 w) (w0 := w) w.heap.size (by rfl) (.tmp 75) (.tmp 77) 22 46 (.agg #[(.bool false), (.int .i64 0), (.string ⟨#[]⟩), (.slice none 0 0), (.slice none 0 0)]) 80 rfl Tryz.underlying22 info46 rfl (show 0 < 5 from by decide) (by omega) (if x.f0 = true then vT else vF) (if x.f0 = true then acc.filter (fun r => r.f0) else acc.filter (fun r => !r.f0)) x [.bool x.f0, .int .i64 x.f1, .string x.f2, .slice A3 x.f3.length c3, .slice A4 x.f4.length c4] (fun _ => True) (fun _ => False) rfl rfl HKM.out (fun _ hh => hh.elim) (fun _ _ => trivial) (HV.out.row x.f0) HV.out.be HV.out.be.size ?aL ?_
   (case aL => have hh : (if x.f0 = true then acc.filter (fun r => r.f0) else acc.filter (fun r => !r.f0)).length ≤ acc.length := (by split <;> exact List.length_filter_le _ _); have := HL.out; omega)
   intro v1 w1 ho hb1 hg1 hat
   obtain ⟨hlk1, W3, D2, hrun, hgr, hv3⟩ := HV.out.step x.f0 (by have := HL.out; omega) hb1 ho hg1 hat
   have HV3 := Aside0.mk hv3
   refine hK.out _ _ ⟨blk_grown BK.out hg1 (fun e => by have := HLT.out x.f0 g e.symm; omega), hlk1 x.f0⟩ (fun hHeld => ?_)
   clear hK K ho hb1 hg1 hat hlk1 hgr hv3
   refine norm_ (a' := ?_) ?_ ?_
   rotate_left
   ·
    show Act.put _ (some 78) _ = _
    simp only [Act.put, LsA, LsZ, LsS, i64_w, i32_w]; rfl
   refine last_ (i := 10) (N := none) (bA 11 2047) rfl rfl (by kernel_rfl) (by decide) (fun K hK => ?_)
   go_simp
   refine hK.out _ _ ?_
   clear hK K hrun
   refine done_ (by kernel_rfl) ?_
   go_wp2
   go_roundw
   case rel =>
    have e1 : (acc ++ [x]).filter (fun r => !r.f0) = if x.f0 = true then acc.filter (fun r => !r.f0) else acc.filter (fun r => !r.f0) ++ [x] := by cases hx : x.f0 <;> simp [List.filter_append, hx]
    have e2 : (acc ++ [x]).filter (fun r => r.f0) = if x.f0 = true then acc.filter (fun r => r.f0) ++ [x] else acc.filter (fun r => r.f0) := by cases hx : x.f0 <;> simp [List.filter_append, hx]
    exact ⟨j + 1, acc ++ [x], m1, D2, _, _, hlt, by go_num, by simp; omega, HM1, ⟨by rw [← HA.out, ← hmm1]; simp⟩, ⟨by rw [e1, e2, List.length_append]; exact HV3.out⟩⟩
   case measure => simp [intOf]; omega
  obtain rfl : j = l0.length := by omega
  have c9b0 : decide ((l0.length : Int) < (l0.length : Int)) = false := decide_eq_false (by omega)
  have c9b1 : decide (l0.length < l0.length) = false := decide_eq_false hlt
  have hp := HP.out; rw [List.drop_length, pickF] at hp
  obtain rfl := Option.some.inj hp
  have ha := HA.out; rw [List.append_nil] at ha; subst ha; clear hp HP HA hlt hj; have h := HH.out; clear HH
  obtain ⟨X, hX, h⟩ := Option.bind_eq_some_iff.mp h
  have HX := Aside0.mk hX; have HH := Aside0.mk h; clear hX h
  have hsz : w.heap.size < wr.heap.size := HV.out.mp.lt
  go_wp2_with (first | (at_range; refine wpList_range_own _ rfl _ 65 rfl 4 22 law4 Tryz.underlying65 RH w.heap.size _ D rfl HV.out.mp ?_; intro w0 hrg0 hg0 hs0) | go_in)
  go_frame
  have HV0 := Aside0.mk (HV.out.below ((Below.refl _ _).grown hg0 (Nat.le_refl _) (fun j hj => by cases hj)))
  have HRG := Aside0.mk hrg0
  obtain ⟨AF, cF, rfl⟩ := Kd.R_slice HV.out.rF
  obtain ⟨AT, cT, rfl⟩ := Kd.R_slice HV.out.rT
  have hlF : (acc.filter (fun r => !r.f0)).length < 1048576 := by have := List.length_filter_le (fun r : S46 => !r.f0) acc; have := HL.out; omega
  have hlT : (acc.filter (fun r => r.f0)).length < 1048576 := by have := List.length_filter_le (fun r : S46 => r.f0) acc; have := HL.out; omega
  clear HV hrg0 hg0 hs0
  generalize acc.filter (fun r => !r.f0) = aF at *
  generalize acc.filter (fun r => r.f0) = aT at *
  generalize wr.heap.size = it at HRG hsz ⊢
  go_loopw [12, 13] (fun v12 v13 ws => ∃ (left : Lit → Bool) (cnt : Nat) (nt : List S33) (fl : Bool), v13 = .bool fl ∧ Aside0 (ws.ranges Tryz.prog 4 RH w.heap.size it acc.length D left cnt) ∧ Aside0 (ViM w acc.length D (.slice AF aF.length cF) (.slice AT aT.length cT) aF aT ws) ∧ Aside0 (Kd.R k33 33 ws w.heap.size (fun _ => True) v12 nt) ∧ Aside0 ((left (.bool true) = Go.Maps.has D (.bool true) ∧ nt = [] ∧ fl = false) ∨ (left (.bool true) = false ∧ nt = X.1 ∧ fl = X.2))) (fun _ _ ws => ws.rangeLeft w.heap.size it)
  case atStart => exact ⟨_, _, [], false, rfl, HRG, HV0, ⟨Kd.R_nil _ _ _ _ _⟩, ⟨.inl ⟨rfl, rfl, rfl⟩⟩⟩
  case round =>
   clear HRG HV0
   obtain ⟨left, cnt, nt, fl, rfl, HRG, HV, HO, HST⟩ := hrel
   go_wp2_with (first
    | (at_next; refine next_groups rfl _ rfl w.heap.size it _ D left cnt rfl HRG.out ?_ ?_)
    | go_in)
   ·
    refine ⟨fun hl0 => ?_⟩
    have hnf : nt = X.1 ∧ fl = X.2 := by
     rcases HST.out with ⟨h1, h2, h3⟩ | ⟨_, h2, h3⟩
     rotate_left
     · exact ⟨h2, h3⟩
     rw [hl0] at h1; have ha := HV.out.no_true h1.symm; subst ha; have hx := HX.out; rw [denF] at hx
     obtain rfl := Option.some.inj hx
     exact ⟨h2, h3⟩
    obtain ⟨X1, X2⟩ := X
    obtain rfl : nt = X1 := hnf.1
    obtain rfl : fl = X2 := hnf.2
    have h : (if fl = true then some [] else viewsF k a1 nt aF) = some r := HH.out
    clear HH HST HX HRG hl0 hnf
    cases fl with
    | true =>
     rw [if_pos rfl] at h
     obtain rfl := Option.some.inj h
     clear h; go_wp2; go_ret
     exact ⟨_, rfl, Kd.R_nil _ _ _ _ _, HV.out.be⟩
    | false =>
     rw [if_neg (by simp)] at h; have HH := Aside0.mk h; have hlk := HV.out.look false
     obtain ⟨AN, cN, rfl⟩ := Kd.R_slice HO.out
     clear h; go_wp2
     go_loopw [18, 114] (fun v18 i ws => ∃ (j : Nat) (out m : List S31), j ≤ aF.length ∧ i = .int .i64 j ∧ out.length ≤ j ∧ Aside0 (viewsF k a1 nt (aF.drop j) = some m) ∧ Aside0 (out ++ m = r) ∧ Aside0 (ViM w acc.length D (.slice AF aF.length cF) (.slice AT aT.length cT) aF aT ws) ∧ Aside0 (Kd.R k33 33 ws w.heap.size (fun _ => True) (.slice AN nt.length cN) nt) ∧ Aside0 (Kd.R kV 31 ws w.heap.size (fun _ => True) v18 out)) (fun _ i _ => aF.length - (intOf i).toNat)
     case atStart => exact ⟨0, [], r, Nat.zero_le _, rfl, Nat.zero_le _, HH, ⟨rfl⟩, HV, HO, ⟨Kd.R_nil _ _ _ _ _⟩⟩
     case round =>
      clear HH HV HO hlk
      obtain ⟨j, out, m, hj, rfl, hol, HM, HR, HV, HO, HW⟩ := hrel
      by_cases hlt : j < aF.length; rotate_left
      ·
       obtain rfl : j = aF.length := by omega
       have c9b0 : decide ((aF.length : Int) < (aF.length : Int)) = false := decide_eq_false (by omega)
       have c9b1 : decide (aF.length < aF.length) = false := decide_eq_false hlt
       have hm := HM.out; rw [List.drop_length, viewsF] at hm
       obtain rfl := Option.some.inj hm
       have hr : out = r := by rw [← HR.out, List.append_nil]
       go_wp2; go_ret
       exact ⟨_, rfl, hr ▸ HW.out, HV.out.be⟩
      have c9b0 : decide ((j : Int) < (aF.length : Int)) = true := decide_eq_true (by omega)
      have c9b1 : decide (j < aF.length) = true := decide_eq_true hlt
      have p9 : (0 : Int) ≤ (j : Int) := by omega
      have q9 : (j : Int) < (aF.length : Int) := by omega
      obtain ⟨ad, A3, c3, A4, c4, e9, hx0, hx1, hx2, hx3, hx4, l3, g3, l4, g4⟩ := at_fix (Kd.R_reads' HV.out.rF).2.2 (j : Int) p9 q9
      cases e9
      rw [Int.toNat_natCast] at hx0 hx1 hx2 hx3 hx4
      replace p9 := eq_true p9; replace q9 := eq_true q9; have hm := HM.out
      rw [List.drop_eq_getElem_cons hlt, show aF[j] = rd_T46 aF (j : Int) by simp [rd_T46, List.getD, List.getElem?_eq_getElem hlt], viewsF] at hm
      generalize rd_T46 aF (j : Int) = x at *
      obtain ⟨⟨b1, b2⟩, hb, hm⟩ := Option.bind_eq_some_iff.mp hm
      obtain ⟨m2, hm2, hm⟩ := Option.bind_eq_some_iff.mp hm
      have HB := Aside0.mk hb; have HM2 := Aside0.mk hm2; have HM3 := Aside0.mk hm; have HG3 := Aside0.mk g3; have HG4 := Aside0.mk g4; clear hb hm2 hm HM g3 g4
      go_upto_region 31 with (fail)
      replace HV := Aside0.mk (HV.out.below (below_alloc (Below.refl _ _) (.cells #[.bool x.f0, .int .i64 x.f1, .string x.f2, .slice A3 x.f3.length c3, .slice A4 x.f4.length c4] 46)))
      replace HO := Aside0.mk (Kd.R_alloc HO.out (.cells #[.bool x.f0, .int .i64 x.f1, .string x.f2, .slice A3 x.f3.length c3, .slice A4 x.f4.length c4] 46))
      replace HW := Aside0.mk (Kd.R_alloc HW.out (.cells #[.bool x.f0, .int .i64 x.f1, .string x.f2, .slice A3 x.f3.length c3, .slice A4 x.f4.length c4] 46))
      have BK := Aside0.mk (blk_new wr (.cells #[.bool x.f0, .int .i64 x.f1, .string x.f2, .slice A3 x.f3.length c3, .slice A4 x.f4.length c4] 46))
      generalize wr.alloc (.cells #[.bool x.f0, .int .i64 x.f1, .string x.f2, .slice A3 x.f3.length c3, .slice A4 x.f4.length c4] 46) = W1 at HV HO HW BK ⊢
      generalize wr.heap.size = g at BK ⊢
      clear hx0 hx1 hx2 hx3 hx4; have hx3 := (blk_cell BK.out 3).trans rfl
      go_wp2_with fail
      refine (attr_Both.calls k A3 c3 x.f3 AN cN nt b1 b2 _ (Kd.C_below HG3.out HV.out.be) l3 (Kd.R_reads' HO.out).2.2 (Kd.R_reads' HO.out).2.1 HB.out (env_below HE.out HV.out.be)).mono ?_
      rintro e w2 ⟨vS, rfl, hws, hbl⟩
      have HWS := Aside0.mk (hws.lower HV.out.be.size)
      replace HV := Aside0.mk (HV.out.below hbl)
      replace HO := Aside0.mk (Kd.R_below HO.out hbl)
      replace HW := Aside0.mk (Kd.R_below HW.out hbl)
      replace BK := Aside0.mk (blk_below BK.out hbl)
      clear hws hbl hx3 HB; have hm := HM3.out; clear HM3; by_cases d1 : b2 = 0; rotate_left
      ·
       rw [if_neg d1] at hm
       obtain rfl := Option.some.inj hm
       have f1 : (b2 == 0) = false := beq_eq_false_iff_ne.mpr d1
       clear hm d1; go_wp2
       go_roundw
       case rel => exact ⟨j + 1, out, m2, hlt, by go_num, by omega, HM2, HR, HV, HO, HW⟩
       case measure => simp [intOf]; omega
      subst d1; rw [if_pos rfl] at hm
      obtain ⟨hh, hcl, hm⟩ := Option.bind_eq_some_iff.mp hm
      obtain rfl := Option.some.inj hm
      have HCL := Aside0.mk hcl; have hx4 := (blk_cell BK.out 4).trans rfl
      obtain ⟨AS, cS, rfl⟩ := HWS.out.slice
      clear hcl hm
      go_wp2_with fail
      refine (slices_Clone_Str.calls A4 c4 x.f4 hh _ (Kd.C_below HG4.out HV.out.be) l4 HCL.out).mono ?_
      rintro e w3 ⟨vH, rfl, hvh, hbl⟩
      have HVH := Aside0.mk (Kd.R_lower hvh HV.out.be.size)
      replace HWS := Aside0.mk (HWS.out.below hbl)
      replace HV := Aside0.mk (HV.out.below hbl)
      replace HO := Aside0.mk (Kd.R_below HO.out hbl)
      replace HW := Aside0.mk (Kd.R_below HW.out hbl)
      clear hvh hbl hx4 HCL BK
      obtain ⟨AH, cH, rfl⟩ := Kd.R_slice HVH.out
      go_wp2_with (first | ((with_reducible refine gate_builtin (b := .append) (xs := #[.tmp 127, .tmp 134]) rfl ?_); at_builtin; refine Kd.R_append kV (w0 := w) w.heap.size rfl (.tmp 127) (.tmp 134) 25 31 (.agg #[(.string ⟨#[]⟩), (.slice none 0 0), (.slice none 0 0)]) 64 rfl Tryz.underlying25 info31 rfl (by decide) (by omega) u18 out (⟨a1, b1, hh⟩ : S31) [.string a1, .slice AS b1.length cS, .slice AH hh.length cH] (fun _ => True) (fun k_ => some k_ ≠ u18.ownBlock) rfl rfl (kV_mkM _ _ _ (⟨a1, b1, hh⟩ : S31) (HWS.out.apart (Kd.R_typed HW.out) (by decide)) (Kd.R_mono (Kd.R_apart' HVH.out (Kd.R_typed HW.out) (by decide)) (fun _ hk => hk.2))) (fun _ hk => ⟨trivial, hk⟩) (fun _ _ => trivial) HW.out HV.out.be HV.out.be.size (by omega) ?_; intro v1 w6 ho6 hb6 hg6 hat6; have HV3 := Aside0.mk (HV.out.beside HW.out (by decide) hg6 hb6); have HO3 := Aside0.mk (Kd.R_mono (Kd.R_grown (Kd.R_apart' HO.out (Kd.R_typed HW.out) (by decide)) hg6 (fun _ hk => hk.2)) (fun _ _ => trivial)); have HW3 := Aside0.mk ho6; clear ho6 hb6 hg6 hat6 HV HO HW))
      go_roundw
      case rel => exact ⟨j + 1, out ++ [(⟨a1, b1, hh⟩ : S31)], m2, hlt, by go_num, by simp; omega, HM2, ⟨by rw [← HR.out]; simp⟩, HV3, HO3, HW3⟩
      case measure => simp [intOf]; omega
   refine ⟨⟨fun c w1 cnt1 hleft hat hrg1 hlt hg1 hen => ?_, fun c w1 cnt1 hleft hat hrg1 hlt hg1 hen => ?_⟩⟩
   ·
    obtain rfl : c = .slice AF aF.length cF := by
     have e1 := hat zN; rw [HV.out.atF] at e1
     exact (DataW.held.inj e1).symm
    have HI := ranges_iter HRG.out; have HV1 := Aside0.mk (HV.out.grown hg1 HI hsz); have HO1 := Aside0.mk (row_no_iter HO.out hg1 HI); have HRG1 := Aside0.mk hrg1
    have HLT1 := Aside0.mk (show cnt1 < wr.rangeLeft w.heap.size it by rw [HRG.out.left_eq]; exact hlt)
    have HLF := Aside0.mk hleft; have HST1 := HST; clear hat hrg1 hg1 HI HV HO hlt hleft HST HRG; go_wp2
    go_loopw [12, 13, 89] (fun v12 v13 i ws => ∃ j : Nat, j ≤ aF.length ∧ i = .int .i64 j ∧ v13 = .bool fl ∧ Aside0 (ws.ranges Tryz.prog 4 RH w.heap.size it acc.length D (fun z => left z && !z.sameKey (.bool false)) cnt1) ∧ Aside0 (ViM w acc.length D (.slice AF aF.length cF) (.slice AT aT.length cT) aF aT ws) ∧ Aside0 (Kd.R k33 33 ws w.heap.size (fun _ => True) v12 nt)) (fun _ _ i _ => aF.length - (intOf i).toNat)
    case atStart => exact ⟨0, Nat.zero_le _, rfl, rfl, HRG1, HV1, HO1⟩
    case round =>
     clear HRG1 HV1 HO1
     obtain ⟨j, hj, rfl, rfl, HRG, HV, HO⟩ := hrel
     by_cases hlt : j < aF.length; rotate_left
     ·
      obtain rfl : j = aF.length := by omega
      have c9b0 : decide ((aF.length : Int) < (aF.length : Int)) = false := decide_eq_false (by omega)
      have c9b1 : decide (aF.length < aF.length) = false := decide_eq_false hlt
      go_wp2
      go_roundw
      case rel =>
       have e1 : ((Lit.bool true).sameKey (.bool false)) = false := by decide
       exact ⟨_, _, nt, fl, rfl, HRG, HV, HO, ⟨by have := HST1.out; simpa [e1] using this⟩⟩
      case measure => rw [HRG.out.left_eq]; exact HLT1.out
     have c9b0 : decide ((j : Int) < (aF.length : Int)) = true := decide_eq_true (by omega)
     have c9b1 : decide (j < aF.length) = true := decide_eq_true hlt
     have p9 : (0 : Int) ≤ (j : Int) := by omega
     have q9 : (j : Int) < (aF.length : Int) := by omega
     obtain ⟨ad, A3, c3, A4, c4, e9, hx0, hx1, hx2, hx3, hx4, l3, g3, l4, g4⟩ := at_fix (Kd.R_reads' HV.out.rF).2.2 (j : Int) p9 q9
     cases e9
     rw [Int.toNat_natCast] at hx0 hx1 hx2 hx3 hx4
     replace p9 := eq_true p9; replace q9 := eq_true q9
     generalize rd_T46 aF (j : Int) = x at *
     go_wp2
     go_roundw
     case rel => exact ⟨j + 1, hlt, by go_num, rfl, ⟨ranges_below HRG.out (below_alloc (Below.refl _ _) _)⟩, ⟨HV.out.below (below_alloc (Below.refl _ _) _)⟩, ⟨Kd.R_alloc HO.out _⟩⟩
     case measure => simp [intOf]; omega
   obtain rfl : c = .slice AT aT.length cT := by
    have e1 := hat zN; rw [HV.out.atT] at e1
    exact (DataW.held.inj e1).symm
   have HI := ranges_iter HRG.out; have HV1 := Aside0.mk (HV.out.grown hg1 HI hsz); have HO1 := Aside0.mk (row_no_iter HO.out hg1 HI); have HRG1 := Aside0.mk hrg1
   have HLT1 := Aside0.mk (show cnt1 < wr.rangeLeft w.heap.size it by rw [HRG.out.left_eq]; exact hlt)
   have HLF := Aside0.mk hleft; have HST1 := HST; clear hat hrg1 hg1 HI HV HO hlt hleft HST HRG; go_wp2
   go_loopw [12, 13, 89] (fun v12 v13 i ws => ∃ (j : Nat) (nt : List S33) (fl : Bool) (x : List S33 × Bool), j ≤ aT.length ∧ i = .int .i64 j ∧ v13 = .bool fl ∧ nt.length ≤ j ∧ Aside0 (denF (aT.drop j) = some x) ∧ Aside0 (nt ++ x.1 = X.1) ∧ Aside0 ((fl || x.2) = X.2) ∧ Aside0 (ws.ranges Tryz.prog 4 RH w.heap.size it acc.length D (fun z => left z && !z.sameKey (.bool true)) cnt1) ∧ Aside0 (ViM w acc.length D (.slice AF aF.length cF) (.slice AT aT.length cT) aF aT ws) ∧ Aside0 (Kd.R k33 33 ws w.heap.size (fun _ => True) v12 nt)) (fun _ _ i _ => aT.length - (intOf i).toNat)
   case atStart =>
    rcases HST1.out with ⟨_, rfl, rfl⟩ | ⟨hf, _⟩
    rotate_left
    · exact absurd (hf.symm.trans HLF.out) (by simp)
    exact ⟨0, [], false, X, Nat.zero_le _, rfl, rfl, Nat.zero_le _, HX, ⟨rfl⟩, ⟨rfl⟩, HRG1, HV1, HO1⟩
   case round =>
    clear HRG1 HV1 HO1 HST1 HLF
    obtain ⟨j, nt, fl, x1, hj, rfl, rfl, hnt, HDN, HNT, HFL, HRG, HV, HO⟩ := hrel
    by_cases hlt : j < aT.length; rotate_left
    ·
     obtain rfl : j = aT.length := by omega
     have c9b0 : decide ((aT.length : Int) < (aT.length : Int)) = false := decide_eq_false (by omega)
     have c9b1 : decide (aT.length < aT.length) = false := decide_eq_false hlt
     have hd := HDN.out; rw [List.drop_length, denF] at hd
     obtain rfl := Option.some.inj hd
     have hn1 : nt = X.1 := by rw [← HNT.out, List.append_nil]
     have hf1 : fl = X.2 := by rw [← HFL.out, Bool.or_false]
     go_wp2
     go_roundw
     case rel =>
      have e1 : ((Lit.bool true).sameKey (.bool true)) = true := by decide
      exact ⟨_, _, nt, fl, rfl, HRG, HV, HO, ⟨.inr ⟨by simp [e1], hn1, hf1⟩⟩⟩
     case measure => rw [HRG.out.left_eq]; exact HLT1.out
    have c9b0 : decide ((j : Int) < (aT.length : Int)) = true := decide_eq_true (by omega)
    have c9b1 : decide (j < aT.length) = true := decide_eq_true hlt
    have p9 : (0 : Int) ≤ (j : Int) := by omega
    have q9 : (j : Int) < (aT.length : Int) := by omega
    obtain ⟨ad, A3, c3, A4, c4, e9, hx0, hx1, hx2, hx3, hx4, l3, g3, l4, g4⟩ := at_fix (Kd.R_reads' HV.out.rT).2.2 (j : Int) p9 q9
    cases e9
    rw [Int.toNat_natCast] at hx0 hx1 hx2 hx3 hx4
    replace p9 := eq_true p9; replace q9 := eq_true q9; have hd := HDN.out
    rw [List.drop_eq_getElem_cons hlt, show aT[j] = rd_T46 aT (j : Int) by simp [rd_T46, List.getD, List.getElem?_eq_getElem hlt], denF] at hd
    generalize rd_T46 aT (j : Int) = x at *
    obtain ⟨x2, hd2, hd⟩ := Option.bind_eq_some_iff.mp hd
    have HD2 := Aside0.mk hd2; have HD3 := Aside0.mk hd; clear hd2 hd HDN
    rcases hf3 : x.f3 with _ | ⟨m, ms⟩
    ·
     have hd3 := HD3.out; rw [hf3] at hd3
     obtain rfl := Option.some.inj hd3
     have e1 : x.f3.length = 0 := by rw [hf3]; rfl
     have e2 : ((x.f3.length : Int) == 0) = true := by rw [e1]; rfl
     clear hd3 HD3 hf3; go_wp2
     go_roundw
     case rel => exact ⟨j + 1, nt, true, x2, hlt, by go_num, rfl, by omega, HD2, HNT, ⟨by have := HFL.out; simpa using this⟩, ⟨ranges_below HRG.out (below_alloc (Below.refl _ _) _)⟩, ⟨HV.out.below (below_alloc (Below.refl _ _) _)⟩, ⟨Kd.R_alloc HO.out _⟩⟩
     case measure => simp [intOf]; omega
    have hd3 := HD3.out; rw [hf3] at hd3
    obtain ⟨⟨o0, o1, o2⟩, ho, hd3⟩ := Option.bind_eq_some_iff.mp hd3
    obtain rfl := Option.some.inj hd3
    have HOT := Aside0.mk ho
    have e1 : 0 < x.f3.length := by rw [hf3]; simp
    have e2 : ((x.f3.length : Int) == 0) = false := beq_eq_false_iff_ne.mpr (by omega)
    have e3 : ((0 : Int) < (x.f3.length : Int)) = True := eq_true (by omega)
    obtain ⟨ad3, e4, hm0, hm1, hm2⟩ := at_T33 (Kd.C_below g3 (HV.out.below (below_alloc (Below.refl _ _) (.cells #[.bool x.f0, .int .i64 x.f1, .string x.f2, .slice A3 x.f3.length c3, .slice A4 x.f4.length c4] 46))).be) 0 (Int.le_refl 0) (by omega)
    rw [show rd_T33 x.f3 0 = m by rw [hf3]; rfl] at hm0 hm1 hm2
    subst e4
    simp only [Int.toNat_zero, Nat.zero_mul, show ad3.add 0 = ad3 by simp [Addr.add]] at hm0 hm1 hm2
    have HRG2 := Aside0.mk (ranges_below HRG.out (below_alloc (Below.refl _ _) (.cells #[.bool x.f0, .int .i64 x.f1, .string x.f2, .slice (some ad3) x.f3.length c3, .slice A4 x.f4.length c4] 46))); have HV2 := Aside0.mk (HV.out.below (below_alloc (Below.refl _ _) (.cells #[.bool x.f0, .int .i64 x.f1, .string x.f2, .slice (some ad3) x.f3.length c3, .slice A4 x.f4.length c4] 46))); have HO2 := Aside0.mk (Kd.R_alloc HO.out (.cells #[.bool x.f0, .int .i64 x.f1, .string x.f2, .slice (some ad3) x.f3.length c3, .slice A4 x.f4.length c4] 46)); clear hd3 HD3 hf3 ho HRG HV HO
    go_wp2_with fail
    refine (policy_other.calls m.f0 m.f1 m.f2 o0 o1 o2 _ HOT.out).mono ?_
    rintro e w5 ⟨rfl, hbl⟩
    replace HRG2 := Aside0.mk (ranges_below HRG2.out hbl)
    replace HV2 := Aside0.mk (HV2.out.below hbl)
    replace HO2 := Aside0.mk (Kd.R_below HO2.out hbl)
    clear hbl HOT hm0 hm1 hm2 hx0 hx1 hx2 hx3 hx4
    go_wp2_with (first | ((with_reducible refine gate_builtin (b := .append) (xs := #[.tmp 93, .tmp 99]) rfl ?_); at_builtin; refine Kd.R_append k33 (w0 := w) w.heap.size rfl (.tmp 93) (.tmp 99) 28 33 (.agg #[(.int .i64 0), (.string ⟨#[]⟩), (.string ⟨#[]⟩)]) 40 rfl Tryz.underlying28 info33 rfl (by decide) (by omega) u12 nt (⟨o0, o1, o2⟩ : S33) [.int .i64 o0, .string o1, .string o2] (fun _ => True) (fun _ => False) rfl rfl (k33_mkM _ _ _ _) (fun _ hh => hh.elim) (fun _ _ => trivial) HO2.out HV2.out.be HV2.out.be.size (by omega) ?_; intro v1 w6 ho6 hb6 hg6 hat6; have HRG3 := Aside0.mk (ranges_beside HRG2.out HO2.out hg6); have HV3 := Aside0.mk (HV2.out.beside HO2.out (by decide) hg6 hb6); have HO3 := Aside0.mk ho6; clear ho6 hb6 hg6 hat6 HRG2 HV2 HO2))
    go_roundw
    case rel => exact ⟨j + 1, nt ++ [(⟨o0, o1, o2⟩ : S33)], fl, x2, hlt, by go_num, rfl, by simp; omega, HD2, ⟨by rw [← HNT.out]; simp⟩, HFL, HRG3, HV3, HO3⟩
    case measure => simp [intOf]; omega
end Go.Proofs.YtkedidjjhhjdbaaGreatDoor.Pr
end
section
set_option linter.unusedVariables false
set_option linter.unusedSimpArgs false
namespace Go.Proofs.YtkedidjjhhjdbaaGreatDoor.Pr
open Go.RowKit Go.Proofs.YtkedidjjhhjdbaaGreatDoorW.PrintWords Go.Proofs.YtkedidjjhhjdbaaGreatDoorW.PrintLast Go.Proofs.YtkedidjjhhjdbaaGreatDoorW.PrintMore
def fitsB (v : ByteArray) (kd : Int) (r : S46) : Bool := decide (rightL r.f0 r.f1 r.f2 r.f3 r.f4 = 0 ∧ (r.f2.toList = ([42] : List UInt8) ∨ r.f2.toList = v.toList) ∧ (r.f1 = 0 ∨ r.f1 = kd))
theorem fitsF_ev (v : ByteArray) (kd : Int) (r : S46) : Ev (fun k => fitsF k v kd r) (fitsB v kd r) := by
 unfold fitsF fitsB
 exact Ev.bind (right_ev r.f0 r.f1 r.f2 r.f3 r.f4) (Ev.const rfl)
theorem pickF_ev (v : ByteArray) (kd : Int) : ∀ l : List S46, Ev (fun k => pickF k v kd l) (l.filter (fitsB v kd))
 | [] => Ev.const rfl
 | r :: l => by
  unfold pickF
  refine Ev.bind (fitsF_ev v kd r) (Ev.bind (pickF_ev v kd l) (Ev.const ?_))
  rw [List.filter_cons]
def otherM (m : S33) : S33 := ⟨rd [0, 2, 1, 4, 3] m.f0, m.f1, m.f2⟩
def denL : List S46 → List S33 × Bool
  | [] => ([], false)
  | r :: l => match r.f3 with
    | [] => ((denL l).1, true)
    | m :: _ => (otherM m :: (denL l).1, (denL l).2)
def opsOk (r : S46) : Prop := ∀ m ∈ r.f3, 1 ≤ m.f0 ∧ m.f0 ≤ 4
theorem wrongL_ops : ∀ l : List S33, wrongL l = 0 → ∀ m ∈ l, 1 ≤ m.f0 ∧ m.f0 ≤ 4
 | [], _, m, h => by cases h
 | x :: l, h, m, hm => by
  rw [wrongL] at h; by_cases h1 : x.f0 < 1 ∨ 4 < x.f0
  · rw [if_pos h1] at h; cases h
  rw [if_neg h1] at h
  cases hk : keyB x.f1 with
  | false => rw [hk] at h; simp at h
  | true =>
   cases hp : plainB x.f2 with
   | false => rw [hk, hp] at h; simp at h
   | true =>
    rw [hk, hp] at h
    rcases List.mem_cons.1 hm with rfl | hm
    · omega
    exact wrongL_ops l (by simpa using h) m hm
theorem rightL_zero {d : Bool} {kd : Int} {tn : ByteArray} {sc : List S33} {h : List ByteArray} (e : rightL d kd tn sc h = 0) : sc.length ≤ 8 ∧ (∀ m ∈ sc, 1 ≤ m.f0 ∧ m.f0 ≤ 4) ∧ h.length ≤ 16 := by
 unfold rightL at e
 by_cases h1 : kd < 0 ∨ 3 < kd
 · rw [if_pos h1] at e; cases e
 rw [if_neg h1] at e; by_cases h2 : tn.toList = ([42] : List UInt8) ∨ nameB tn = true; rotate_left
 · rw [if_neg h2] at e; cases e
 rw [if_pos h2] at e; by_cases h3 : rightM sc = 0; rotate_left
 · rw [if_neg h3] at e; exact absurd e h3
 rw [if_pos h3] at e
 have h8 : sc.length ≤ 8 ∧ wrongL sc = 0 := by
  unfold rightM at h3
  by_cases h8 : (sc.length : Int) > 8
  · rw [if_pos h8] at h3; cases h3
  rw [if_neg h8] at h3; exact ⟨by omega, h3⟩
 refine ⟨h8.1, wrongL_ops sc h8.2, ?_⟩
 by_cases h4 : d = true ∧ ((sc.length : Int) > 1 ∨ (h.length : Int) > 0)
 · rw [if_pos h4] at e; cases e
 rw [if_neg h4] at e
 unfold hidL at e
 by_cases h5 : (h.length : Int) > 16; rotate_left
 · omega
 rw [if_pos h5] at e; cases e
theorem fitsB_ok {v : ByteArray} {kd : Int} {r : S46} (h : fitsB v kd r = true) : r.f3.length ≤ 8 ∧ opsOk r ∧ r.f4.length ≤ 16 := by
 unfold fitsB at h
 exact rightL_zero (of_decide_eq_true h).1
theorem other_eq (m : S33) (h : 1 ≤ m.f0 ∧ m.f0 ≤ 4) : policy_other.f m.f0 m.f1 m.f2 = some ((otherM m).f0, (otherM m).f1, (otherM m).f2) := by
 have : m.f0 = 1 ∨ m.f0 = 2 ∨ m.f0 = 3 ∨ m.f0 = 4 := by omega
 unfold policy_other.f otherM
 simp only
 rcases this with e | e | e | e <;> rw [e] <;> simp [rd]
theorem denF_eq : ∀ l : List S46, (∀ r ∈ l, opsOk r) → denF l = some (denL l)
 | [], _ => rfl
 | r :: l, h => by
  rw [denF, denF_eq l (fun x hx => h x (List.mem_cons_of_mem _ hx)), Option.bind_some, denL]
  have hr := h r (List.mem_cons_self ..)
  unfold opsOk at hr
  cases e : r.f3 with
  | nil => rfl
  | cons m t =>
   simp only
   rw [other_eq m (hr m (by rw [e]; exact List.mem_cons_self ..)), Option.bind_some]
theorem denL_len : ∀ l : List S46, (denL l).1.length ≤ l.length
 | [] => Nat.le_refl _
 | r :: l => by
  have := denL_len l
  rw [denL]
  cases r.f3 with
  | nil => simp only [List.length_cons]; omega
  | cons m t => simp only [List.length_cons]; omega
def viewsL (o : ByteArray) (nt : List S33) : List S46 → List S31
  | [] => []
  | r :: l => if (bothL r.f3 nt).2 = 0 then (⟨o, (bothL r.f3 nt).1, r.f4⟩ : S31) :: viewsL o nt l else viewsL o nt l
theorem viewsF_ev (o : ByteArray) (nt : List S33) (hn : nt.length ≤ 201) : ∀ l : List S46, (∀ r ∈ l, r.f3.length ≤ 8 ∧ r.f4.length ≤ 16) → Ev (fun k => viewsF k o nt l) (viewsL o nt l)
 | [], _ => Ev.const rfl
 | r :: l, h => by
  have hr := h r (List.mem_cons_self ..)
  unfold viewsF viewsL
  refine Ev.bind (both_ev r.f3 nt (by omega)) (Ev.bind (viewsF_ev o nt hn l (fun x hx => h x (List.mem_cons_of_mem _ hx))) (Ev.const ?_))
  by_cases h0 : (bothL r.f3 nt).2 = 0; rotate_left
  · rw [if_neg h0, if_neg h0]
  rw [if_pos h0, if_pos h0]
  unfold slices_Clone_Str.f
  rw [if_pos (by omega), Option.bind_some]
def viewsR (l : List S46) (o v : ByteArray) (kd : Int) : List S31 :=
  if kd < 1 ∨ kd > 3 then [] else if v.toList = o.toList then [(⟨o, [], []⟩ : S31)] else
    if (denL ((l.filter (fitsB v kd)).filter (fun r => r.f0))).2 = true then [] else viewsL o (denL ((l.filter (fitsB v kd)).filter (fun r => r.f0))).1 ((l.filter (fitsB v kd)).filter (fun r => !r.f0))
theorem views_ev (l : List S46) (o v : ByteArray) (kd : Int) (hl : l.length ≤ 201) : Ev (fun k => policy_Views.f k l o v kd) (viewsR l o v kd) := by
 unfold policy_Views.f viewsR
 simp only [if_pos (show l.length < 1048576 by omega)]
 by_cases h1 : kd < 1 ∨ kd > 3
 · simp only [if_pos h1]; exact Ev.const rfl
 simp only [if_neg h1]; by_cases h2 : v.toList = o.toList
 · simp only [if_pos h2]; exact Ev.const rfl
 simp only [if_neg h2]
 have hok : ∀ r ∈ l.filter (fitsB v kd), r.f3.length ≤ 8 ∧ opsOk r ∧ r.f4.length ≤ 16 := fun r hr => fitsB_ok (List.mem_filter.1 hr).2
 refine Ev.bind (pickF_ev v kd l) ?_
 rw [denF_eq _ (fun r hr => (hok r (List.mem_filter.1 hr).1).2.1)]
 simp only [Option.bind_some]
 have hlen : (denL ((l.filter (fitsB v kd)).filter (fun r => r.f0))).1.length ≤ 201 := by
  refine Nat.le_trans (denL_len _) (Nat.le_trans (List.length_filter_le _ _) (Nat.le_trans (List.length_filter_le _ _) hl))
 cases (denL ((l.filter (fitsB v kd)).filter (fun r => r.f0))).2 with
 | true => exact Ev.const rfl
 | false =>
  simp only [Bool.false_eq_true, if_false]
  exact viewsF_ev o _ hlen _ (fun r hr => ⟨(hok r (List.mem_filter.1 hr).1).1, (hok r (List.mem_filter.1 hr).1).2.2⟩)
theorem bothL_len (a b : List S33) : (bothL a b).1.length ≤ 8 := by
 unfold bothL
 split
 · simp
 split
 rotate_left
 · simp
 simp only; omega
theorem viewsL_small (o : ByteArray) (nt : List S33) : ∀ l : List S46, (∀ r ∈ l, r.f4.length ≤ 16) → (viewsL o nt l).length ≤ l.length ∧ ∀ x ∈ viewsL o nt l, x.f1.length ≤ 8 ∧ x.f2.length ≤ 16
 | [], _ => ⟨Nat.le_refl _, fun x h => by cases h⟩
 | r :: l, h => by
  obtain ⟨h1, h2⟩ := viewsL_small o nt l (fun x hx => h x (List.mem_cons_of_mem _ hx))
  rw [viewsL]
  split
  rotate_left
  · exact ⟨by simp; omega, h2⟩
  refine ⟨by simp; omega, fun x hx => ?_⟩
  rcases List.mem_cons.1 hx with rfl | hx
  rotate_left
  · exact h2 x hx
  exact ⟨bothL_len _ _, h r (List.mem_cons_self ..)⟩
theorem viewsR_small (l : List S46) (o v : ByteArray) (kd : Int) : (viewsR l o v kd).length ≤ l.length + 1 ∧ ∀ x ∈ viewsR l o v kd, x.f1.length ≤ 8 ∧ x.f2.length ≤ 16 := by
 unfold viewsR
 split
 · exact ⟨by simp, fun x h => by cases h⟩
 split
 ·
  refine ⟨by simp, fun x h => ?_⟩
  rw [List.mem_singleton.1 h]; exact ⟨by simp, by simp⟩
 split
 · exact ⟨by simp, fun x h => by cases h⟩
 have := viewsL_small o (denL ((l.filter (fitsB v kd)).filter (fun r => r.f0))).1 ((l.filter (fitsB v kd)).filter (fun r => !r.f0)) (fun r hr => (fitsB_ok (List.mem_filter.1 (List.mem_filter.1 hr).1).2).2.2)
 refine ⟨?_, this.2⟩
 have h1 := List.length_filter_le (fun r : S46 => !r.f0) (l.filter (fitsB v kd))
 have h2 := List.length_filter_le (fitsB v kd) l; omega
end Go.Proofs.YtkedidjjhhjdbaaGreatDoor.Pr
end
section
namespace Go.Proofs.YtkedidjjhhjdbaaGreatDoor.Pr
open Go.RowKit Go.Proofs.YtkedidjjhhjdbaaGreatDoorW.PrintWords Go.Proofs.YtkedidjjhhjdbaaGreatDoorW.PrintLast Go.Proofs.YtkedidjjhhjdbaaGreatDoorW.PrintMore
attribute [local go_sem] max2_int min2_int max_two min_two max_three min_three max_four min_four strGtr strLeq strGeq
set_option linter.unusedVariables false
set_option linter.unusedSimpArgs false
theorem eqA62 (d : Nat) (w : World) (x0 y0 : ByteArray) (x1 y1 : ByteArray) :
  (Op.equalIn (d + 2) 62 (.agg #[.string x0, .string x1]) (.agg #[.string y0, .string y1])).run Tryz.prog w = .ok (x0.toList == y0.toList && (x1.toList == y1.toList)) w := by
 refine eqA_of Tryz.underlying62 (by kernel_rfl) ?_
 refine eqf_cons (by rfl) (by go_simp; rfl) (by go_simp; rfl) (by go_simp) ?_
 exact eqf_last (by rfl) (by go_simp; rfl) (by go_simp; rfl) (by go_simp)
end Go.Proofs.YtkedidjjhhjdbaaGreatDoor.Pr
end
section
namespace Go.Proofs.YtkedidjjhhjdbaaGreatDoor.Pr
open Go.RowKit Go.Proofs.YtkedidjjhhjdbaaGreatDoorW.PrintWords Go.Proofs.YtkedidjjhhjdbaaGreatDoorW.PrintLast Go.Proofs.YtkedidjjhhjdbaaGreatDoorW.PrintMore
attribute [local go_sem] max2_int min2_int max_two min_two max_three min_three max_four min_four strGtr strLeq strGeq
set_option linter.unusedVariables false
set_option linter.unusedSimpArgs false
def stringslite_HasPrefix.f (a0 : ByteArray) (a1 : ByteArray) : Option (Bool) := if (a0.size : Int) ≥ (a1.size : Int) then (if 0 ≤ (a1.size : Int) then (if (a1.size : Int) ≤ (a0.size : Int) then (some ((a0.extract 0 ((a1.size : Int) : Int).toNat).toList == a1.toList)) else (none)) else (none)) else (some false)
set_option maxHeartbeats 8000000 in
set_option maxRecDepth 100000 in
theorem stringslite_HasPrefix.calls (a0 : ByteArray) (a1 : ByteArray) (r : Bool) (w : World) (h : stringslite_HasPrefix.f a0 a1 = some r) :
  Calls Tryz.prog 138 #[.string a0, .string a1] w fun e w' => e = .returned (.bool r) ∧ Drawn0 w w' := by
 have H : (if (a0.size : Int) ≥ (a1.size : Int) then (if 0 ≤ (a1.size : Int) then (if (a1.size : Int) ≤ (a0.size : Int) then (some ((a0.extract 0 ((a1.size : Int) : Int).toNat).toList == a1.toList)) else (none)) else (none)) else (some false)) = some r := h
 clear h; by_cases c3 : (a0.size : Int) ≥ (a1.size : Int); rotate_left
 ·
  rw [if_neg c3] at H
  have c3b0 : decide ((a1.size : Int) ≤ (a0.size : Int)) = false := decide_eq_false c3
  have c3b1 : decide (a1.size ≤ a0.size) = false := decide_eq_false (fun h => c3 (Int.ofNat_le.mpr h))
  clear c3
  obtain rfl := Option.some.inj H
  go_enter Tryz.func138, Tryz.ntmps138
  go_wp2; go_ret
  exact ⟨by first | rfl | (simp; done) | (simp [*]; done), by repeat (first | exact Drawn0.refl _ | apply Drawn0.step)⟩
 rw [if_pos c3] at H
 have c3b0 : decide ((a1.size : Int) ≤ (a0.size : Int)) = true := decide_eq_true c3
 have c3b1 : decide (a1.size ≤ a0.size) = true := decide_eq_true (Int.ofNat_le.mp c3)
 clear c3; by_cases c4 : 0 ≤ (a1.size : Int); rotate_left
 · rw [if_neg c4] at H; exact absurd H (by simp)
 rw [if_pos c4] at H; have c4b0 := eq_true c4
 have c4b1 : decide (0 ≤ (a1.size : Int)) = true := decide_eq_true c4
 clear c4; by_cases c5 : (a1.size : Int) ≤ (a0.size : Int); rotate_left
 · rw [if_neg c5] at H; exact absurd H (by simp)
 rw [if_pos c5] at H; have c5b0 := eq_true c5
 have c5b1 : decide ((a1.size : Int) ≤ (a0.size : Int)) = true := decide_eq_true c5
 clear c5
 obtain rfl := Option.some.inj H
 go_enter Tryz.func138, Tryz.ntmps138
 go_wp2; go_ret
 exact ⟨by first | rfl | (simp; done) | (simp [*]; done), by repeat (first | exact Drawn0.refl _ | apply Drawn0.step)⟩
def strings_HasPrefix.f (a0 : ByteArray) (a1 : ByteArray) : Option (Bool) := (stringslite_HasPrefix.f a0 a1).bind fun t138 => (some t138)
set_option maxHeartbeats 8000000 in
set_option maxRecDepth 100000 in
theorem strings_HasPrefix.calls (a0 : ByteArray) (a1 : ByteArray) (r : Bool) (w : World) (h : strings_HasPrefix.f a0 a1 = some r) :
  Calls Tryz.prog 108 #[.string a0, .string a1] w fun e w' => e = .returned (.bool r) ∧ Drawn0 w w' := by
 have H : ((stringslite_HasPrefix.f a0 a1).bind fun t138 => (some t138)) = some r := h
 clear h
 replace H := Option.bind_eq_some_iff.mp H
 obtain ⟨t138, A30, H⟩ := H
 replace H : (some t138) = some r := H
 have A3 := Aside0.mk A30; clear A30
 obtain rfl := Option.some.inj H
 go_enter Tryz.func108, Tryz.ntmps108
 go_wp2_with (first | ((with_reducible refine gate_callee (f := 138) rfl ?_); refine goesL_ (some 7) rfl rfl Tryz.func138 (by kernel_rfl) rfl #[.string a0, .string a1] rfl lR ?_; (with_reducible refine (stringslite_HasPrefix.calls a0 a1 t138 _ A3.out).mono ?_); rintro e w' ⟨rfl, ⟨nd, rfl⟩⟩; refine ⟨_, rfl, ?_⟩))
 go_ret
 exact ⟨by first | rfl | (simp; done) | (simp [*]; done), by repeat (first | exact Drawn0.refl _ | apply Drawn0.step)⟩
end Go.Proofs.YtkedidjjhhjdbaaGreatDoor.Pr
end
section
set_option linter.unusedVariables false
set_option linter.unusedSimpArgs false
namespace Go.Proofs.YtkedidjjhhjdbaaGreatDoor.Pr
open Go.RowKit Go.Proofs.YtkedidjjhhjdbaaGreatDoorW.PrintWords Go.Proofs.YtkedidjjhhjdbaaGreatDoorW.PrintLast Go.Proofs.YtkedidjjhhjdbaaGreatDoorW.PrintMore
def strings_Join.f (l0 : List ByteArray) (a1 : ByteArray) : Option ByteArray := if l0.length ≤ 140737488355328 ∧ (Lib.join (l0.map (·.data.toList)) a1.data.toList).length ≤ 140737488355328 then some ⟨(Lib.join (l0.map (·.data.toList)) a1.data.toList).toArray⟩ else none
theorem strings_Join.calls (A0 : Option Addr) (c0 : Nat) (l0 : List ByteArray) (a1 : ByteArray) (r : ByteArray) (w : World) (hr0 : Kd.C Kd.string w A0 l0.length l0) (hc0 : l0.length ≤ c0) (h : strings_Join.f l0 a1 = some r) :
  Calls Tryz.prog 72 #[.slice A0 l0.length c0, .string a1] w fun e w' => e = .returned (.string r) ∧ Below w.heap.size w w' := by
 unfold strings_Join.f at h
 by_cases hs : l0.length ≤ 140737488355328 ∧ (Lib.join (l0.map (·.data.toList)) a1.data.toList).length ≤ 140737488355328; rotate_left
 · rw [if_neg hs] at h; cases h
 rw [if_pos hs] at h
 obtain rfl := Option.some.inj h
 rcases Nat.eq_zero_or_pos l0.length with h0 | h0
 rotate_left
 ·
  obtain ⟨b, o, rfl, hb, hc⟩ := strs_cells hr0 h0
  exact Tryz.strings_Join b o c0 l0 a1 w hc hb hs.1 hc0 hs.2
 obtain rfl := List.eq_nil_of_length_eq_zero h0
 refine (Tryz.strings_Join_none A0 c0 a1 w).mono ?_
 rintro e w' ⟨rfl, rfl⟩
 exact ⟨rfl, Below.refl _ _⟩
end Go.Proofs.YtkedidjjhhjdbaaGreatDoor.Pr
end
section
set_option linter.unusedVariables false
set_option linter.unusedSimpArgs false
namespace Go.Proofs.YtkedidjjhhjdbaaGreatDoor.Pr
theorem disable (w : World) : (callFunc 185 #[]).run Tryz.prog w = .ok (.value (.tuple #[])) w := run_call_mark0 Tryz.func185 (by kernel_rfl) (by kernel_rfl) (by kernel_rfl) .disable (by kernel_rfl) w
theorem enable (w : World) : (callFunc 187 #[]).run Tryz.prog w = .ok (.value (.tuple #[])) w := run_call_mark0 Tryz.func187 (by kernel_rfl) (by kernel_rfl) (by kernel_rfl) .enable (by kernel_rfl) w
theorem acquire (a : Addr) (w : World) : (callFunc 188 #[.pointer (some a)]).run Tryz.prog w = .ok (.value (.tuple #[])) w := run_call_marked Tryz.func188 (by kernel_rfl) (by kernel_rfl) (by kernel_rfl) .acquire (by kernel_rfl) a w
theorem releaseMerge (a : Addr) (w : World) : (callFunc 190 #[.pointer (some a)]).run Tryz.prog w = .ok (.value (.tuple #[])) w := run_call_marked Tryz.func190 (by kernel_rfl) (by kernel_rfl) (by kernel_rfl) .releaseMerge (by kernel_rfl) a w
set_option maxHeartbeats 4000000 in
set_option maxRecDepth 1000000 in
theorem store_deferred (a : Addr) (x : Value) (u : FrameMode) (w : World) (hc : w.cell? a = some x) (hz : w.frozen? a = false) :
  CallsD Tryz.prog 176 #[.pointer (some a), .bool true] u w fun e u' w' => u' = u ∧ (e = .returned (.tuple #[]) ∧ w' = w.drew.setCell a (.int .u32 1)) := by
 have hc' : w.drew.cell? a = some x := by go_simp
 have hz' : w.drew.frozen? a = false := by go_simp
 have hst := run_call_store (P := Tryz.prog) Tryz.func181 (by kernel_rfl) (by kernel_rfl) (by kernel_rfl) (by kernel_rfl) (k := .u32) (y := 1) hc' hz'
 go_enter_d Tryz.func176, Tryz.ntmps176
 go_wp2
 go_region_calls
 all_goals (go_end0; exact ⟨rfl, rfl⟩)
set_option maxHeartbeats 4000000 in
set_option maxRecDepth 1000000 in
theorem unlock_deferred (a : Addr) (u : FrameMode) (w : World) (hc : w.cell? a = some (.int .i32 1)) (hz : w.frozen? a = false) :
  CallsD Tryz.prog 175 #[.pointer (some a)] u w fun e u' w' => u' = u ∧ (e = .returned (.tuple #[]) ∧ w' = w.setCell a (.int .i32 0)) := by
 have hd := disable; have he := enable; have hr := releaseMerge
 have hadd := run_call_add (P := Tryz.prog) Tryz.func191 (by kernel_rfl) (by kernel_rfl) (by kernel_rfl) .i32 (by kernel_rfl) (y := -1) (s := 0) hc hz (by simp [go_sem]; rfl)
 have hcv := run_convert_to_unsafe (P := Tryz.prog) (src := 231) (dst := 126) Tryz.underlying231 Tryz.underlying126 (by kernel_rfl) hc
 go_enter_d Tryz.func175, Tryz.ntmps175
 go_wp2
 go_end0
 go_wp2
 go_end0
 exact ⟨rfl, rfl⟩
set_option maxHeartbeats 4000000 in
set_option maxRecDepth 1000000 in
theorem lock_free (a : Addr) (w : World) (hc : w.cell? a = some (.int .i32 0)) (hz : w.frozen? a = false) :
  Calls Tryz.prog 174 #[.pointer (some a)] w fun e w' => e = .returned (.tuple #[]) ∧ w' = w.setCell a (.int .i32 1) := by
 have hd := disable; have he := enable; have ha := acquire; have hcas := run_call_cas_hit (P := Tryz.prog) Tryz.func186 (by kernel_rfl) (by kernel_rfl) (by kernel_rfl) .i32 (by kernel_rfl) (y := 1) hc hz
 have hc' : (w.setCell a (.int .i32 1)).cell? a = some (.int .i32 1) := World.cell?_setCell_same w a _ hc
 have hcv := run_convert_to_unsafe (P := Tryz.prog) (src := 231) (dst := 126) Tryz.underlying231 Tryz.underlying126 (by kernel_rfl) hc'
 go_enter Tryz.func174, Tryz.ntmps174
 go_wp2
 first | go_end0 | (simp only [Exit.inBlock, Exit.then]; refine bodyPost_ret (results_none rfl _ _ _) rfl ?_) | refine bodyPost_ret (results_none rfl _ _ _) rfl ?_
 go_wp2
 go_end0
 exact ⟨rfl, rfl⟩
end Go.Proofs.YtkedidjjhhjdbaaGreatDoor.Pr
end
section
set_option linter.unusedVariables false
set_option linter.unusedSimpArgs false
namespace Go.Proofs.YtkedidjjhhjdbaaGreatDoor.Pr
open Go.Proofs.YtkedidjjhhjdbaaGreatDoorW.PrintWords
theorem bcell {w : World} {g : Nat} {cs : Array Value} {t : TypeId} (h : w.heap[g]? = some (.cells cs t (0, 0))) (i : Nat) : w.cell? ⟨g, i, none⟩ = cs[i]? := blk_cell h i
set_option maxRecDepth 1000000 in
set_option maxHeartbeats 4000000 in
theorem slow_any (g : Nat) (x3 x4 y3 y4 : Value) (w : World) (R : World → Prop) (hb : w.heap[g]? = some (.cells #[.int .u32 0, .int .i32 0, .int .u32 0, x3, x4] 188 (0, 0)))
  (hF : Calls Tryz.prog 153 #[.pointer (some ⟨g, 0, none⟩)] (w.setCell ⟨g, 1, none⟩ (.int .i32 1)) fun e w' => e = .returned (.tuple #[]) ∧ w'.heap[g]? = some (.cells #[.int .u32 0, .int .i32 1, .int .u32 0, y3, y4] 188 (0, 0)) ∧ R w')
  (hR : ∀ W j u, R W → R (W.setCell ⟨g, j, none⟩ u)) (hD : ∀ W, R W → R W.drew) :
  Calls Tryz.prog 168 #[.pointer (some ⟨g, 0, none⟩), .func (.func 153) #[.pointer (some ⟨g, 0, none⟩)] #[]] w fun e w' => e = .returned (.tuple #[]) ∧
   w'.heap[g]? = some (.cells #[.int .u32 1, .int .i32 0, .int .u32 0, y3, y4] 188 (0, 0)) ∧ R w' := by
 have h0 : w.cell? ⟨g, 0, none⟩ = some (.int .u32 0) := bcell hb 0
 have h1 : w.cell? ⟨g, 1, none⟩ = some (.int .i32 0) := bcell hb 1
 have f1 : w.frozen? ⟨g, 1, none⟩ = false := blk_frozen hb 1
 have hl := run_call_load (P := Tryz.prog) Tryz.func173 (by kernel_rfl) (by kernel_rfl) (by kernel_rfl) .u32 (by kernel_rfl) (w := w.setCell ⟨g, 1, none⟩ (.int .i32 1)) (a := ⟨g, 0, none⟩) (x := 0) ((World.cell?_setCell_other _ ⟨g, 1, none⟩ ⟨g, 0, none⟩ _ (by simp)).trans h0)
 have hnot : ∀ (x : Bool) (w : World), (Op.unary .not (.bool x)).run Tryz.prog w = .ok (.bool (!x)) w := fun _ _ => rfl
 have HF := Aside0.mk hF; have HR := Aside0.mk hR; have HD := Aside0.mk hD; clear hF hb hR hD
 go_enter_defers Tryz.func168, Tryz.ntmps168
 go_wp2_with (go_at_call 174; refine (lock_free ⟨g, 1, none⟩ _ (by go_simp) (by go_simp)).mono ?_; rintro e w' ⟨rfl, rfl⟩)
 go_wp2_with (first | (go_at_call 153; refine HF.out.mono ?_; rintro e w1 ⟨rfl, hb1, hr1⟩; have HB1 := Aside0.mk hb1; have HR1 := Aside0.mk hr1; clear hb1 hr1) | (go_at_call 167; go_in))
 have k0 : w1.cell? ⟨g, 0, none⟩ = some (.int .u32 0) := bcell HB1.out 0
 have k1 : w1.cell? ⟨g, 1, none⟩ = some (.int .i32 1) := bcell HB1.out 1
 have z0 : w1.frozen? ⟨g, 0, none⟩ = false := blk_frozen HB1.out 0
 have z1 : w1.frozen? ⟨g, 1, none⟩ = false := blk_frozen HB1.out 1
 have HBd : w1.drew.heap[g]? = _ := HB1.out
 have B1 := blk_set HBd 0 (.int .u32 1); have B2 := blk_set B1 1 (.int .i32 0)
 refine leaves_cons (f := 176) (args := #[.pointer (some ⟨g, 0, none⟩), .bool true]) (by simp) (by simp [go_sem]) ?_
 refine (store_deferred ⟨g, 0, none⟩ (.int .u32 0) _ _ k0 z0).mono ?_
 rintro e u' w'' ⟨rfl, rfl, rfl⟩
 refine leaves_cons (f := 175) (args := #[.pointer (some ⟨g, 1, none⟩)]) (by simp [settle]) (by simp [go_sem]) ?_
 refine (unlock_deferred ⟨g, 1, none⟩ _ _ (bcell B1 1) (blk_frozen B1 1)).mono ?_
 rintro e u' w'' ⟨rfl, rfl, rfl⟩
 simp [Leaves, settle, results, Tryz.results168]
 exact ⟨B2, HR.out _ _ _ (HR.out _ _ _ (HD.out _ HR1.out))⟩
end Go.Proofs.YtkedidjjhhjdbaaGreatDoor.Pr
end
section
set_option linter.unusedVariables false
set_option linter.unusedSimpArgs false
namespace Go.Proofs.YtkedidjjhhjdbaaGreatDoor.Pr
open Go.RowKit Go.Proofs.YtkedidjjhhjdbaaGreatDoorW.PrintWords Go.Proofs.YtkedidjjhhjdbaaGreatDoorW.PrintLast Go.Proofs.YtkedidjjhhjdbaaGreatDoorW.PrintMore
theorem lt_of_cell {w : World} {g i : Nat} {v : Value} (h : w.cell? ⟨g, i, none⟩ = some v) : g < w.heap.size := by
 rcases Nat.lt_or_ge g w.heap.size with h' | h'
 · exact h'
 simp [World.cell?, Array.getElem?_eq_none h'] at h
theorem alloc_size (w : World) (o : Obj) : w.heap.size + 1 = (w.alloc o).heap.size := (Array.size_push _).symm
theorem one_back (b : UInt8) (W : World) : (convert 74 9 (.slice (some ⟨W.heap.size, 0, none⟩) 1 1)).run Tryz.prog (W.alloc (.cells #[.int .u8 (b.toNat : Int)] 5)) = .ok (.string ⟨#[b]⟩) (W.alloc (.cells #[.int .u8 (b.toNat : Int)] 5)) :=
 run_convert_bytes_back (P := Tryz.prog) (W.alloc (.cells #[.int .u8 (b.toNat : Int)] 5)) 74 9 5 ⟨W.heap.size, 0, none⟩ 1 [b] Tryz.underlying74 Tryz.underlying5 Tryz.underlying9 (fun j hj => by
  have : j = 0 := by simp at hj; omega
  subst this
  exact World.cell?_alloc_at _ _ _ _ rfl)
theorem make3 (W : World) : (Instr.makeSlice 29 (.int .i64 0) (.int .i64 3)).run Tryz.prog W = .ok (.slice (some ⟨W.heap.size, 0, none⟩) 0 3) (W.alloc (.cells #[.string ⟨#[]⟩, .string ⟨#[]⟩, .string ⟨#[]⟩] 9)) :=
 by
 have hi : (Tryz.prog.info? 9).map (fun i => (i.zero, i.size, i.bytes)) = some (some (.string ⟨#[]⟩), 1, 16) := by kernel_rfl
 cases h : Tryz.prog.info? 9 with
 | none => simp [h] at hi
 | some i =>
  simp [h] at hi
  have := run_make (P := Tryz.prog) W 29 9 i (.string ⟨#[]⟩) Tryz.underlying29 h hi.1 .i64 .i64 0 3 (by omega) (by omega) (by rw [hi.2.2]; decide) (by omega)
  rw [hi.2.1] at this
  have e : madeCells (Value.string ⟨#[]⟩).cells (Int.toNat 3 * 1) = #[.string ⟨#[]⟩, .string ⟨#[]⟩, .string ⟨#[]⟩] := by kernel_rfl
  rw [e] at this; exact this
def bw (W : World) (s : ByteArray) : World := W.drew.alloc (.cells (bytesRow s (grownCap W s.size 0 5)) 5 ((bytesRow s (grownCap W s.size 0 5)).size, (bytesRow s (grownCap W s.size 0 5)).size + 1))
theorem bw_size (W : World) (s : ByteArray) : (bw W s).heap.size = W.heap.size + 1 := (alloc_size W.drew _).symm
theorem bw_run (W : World) (s : ByteArray) : (convert 9 74 (.string s)).run Tryz.prog W = .ok (.slice (some ⟨W.heap.size, 0, none⟩) s.size (grownCap W s.size 0 5)) (bw W s) :=
 run_bytes_of_string W 9 74 5 s Tryz.underlying9 Tryz.underlying74 Tryz.underlying5
theorem bw_old (W : World) (s : ByteArray) (n i : Nat) (h : n < W.heap.size) : (bw W s).cell? ⟨n, i, none⟩ = W.cell? ⟨n, i, none⟩ := by
 have : (bw W s).heap[n]? = W.heap[n]? := by
  show (W.heap.push _)[n]? = _
  rw [Array.getElem?_push, if_neg (by omega)]
 simp only [World.cell?, this]
theorem bw_oldF (W : World) (s : ByteArray) (n i : Nat) (h : n < W.heap.size) : (bw W s).frozen? ⟨n, i, none⟩ = W.frozen? ⟨n, i, none⟩ := by
 have : (bw W s).heap[n]? = W.heap[n]? := by
  show (W.heap.push _)[n]? = _
  rw [Array.getElem?_push, if_neg (by omega)]
 simp only [World.frozen?, this]
theorem bw_below {k : Nat} {w W : World} (s : ByteArray) (h : Below k w W) (hk : k ≤ W.heap.size) : Below k w (bw W s) := h.drew.alloc hk _
def repl : Option (Nat × Nat) → Value
  | none => .slice none 0 0
  | some (g, c) => .slice (some ⟨g, 0, none⟩) 2 c
def rlies (w w' : World) (k : Nat) : Option (Nat × Nat) → Prop
  | none => True
  | some (g, c) => w.heap.size + 1 < g ∧ g < w'.heap.size ∧ 2 ≤ c ∧ w'.cell? ⟨g, 0, none⟩ = some (.int .u8 92) ∧ w'.cell? ⟨g, 1, none⟩ = some (.int .u8 (k : Int))
structure Bs (w : World) (a b c : Option (Nat × Nat)) (n : Nat) (x y z : ByteArray) (w' : World) : Prop where
  lt : w.heap.size + 1 < w'.heap.size
  bel : Below w.heap.size w w'
  H : ∃ ch, w'.heap[w.heap.size + 1]? = some (.cells ch 215 (0, 0)) ∧ ch.size = 257 ∧ ch[10]? = some (repl a) ∧ ch[92]? = some (repl b) ∧ ch[34]? = some (repl c) ∧
    ch[256]? = some (.slice (some ⟨w.heap.size, 0, none⟩) n 3) ∧ ∀ i, i < 256 → i ≠ 10 → i ≠ 92 → i ≠ 34 → ch[i]? = some (.slice none 0 0)
  T : w'.heap[w.heap.size]? = some (.cells #[.string x, .string y, .string z] 9 (0, 0))
  A : rlies w w' 110 a
  B : rlies w w' 92 b
  C : rlies w w' 34 c
theorem rlies_step {w w1 w2 : World} {k : Nat} (h1 : w1.heap.size ≤ w2.heap.size) (h2 : ∀ g, w.heap.size + 1 < g → g < w1.heap.size → w2.heap[g]? = w1.heap[g]?) : ∀ {a : Option (Nat × Nat)}, rlies w w1 k a → rlies w w2 k a
 | none, _ => trivial
 | some (g, c), ⟨a1, a2, a3, a4, a5⟩ => ⟨a1, by omega, a3, (World.cell?_of_block (w := w1) (h2 g a1 a2)).trans a4, (World.cell?_of_block (w := w1) (h2 g a1 a2)).trans a5⟩
section
variable {w w1 : World} {a b c : Option (Nat × Nat)} {n : Nat} {x y z : ByteArray}
theorem Bs.far {w2 : World} (h : Bs w a b c n x y z w1) (hs : w1.heap.size ≤ w2.heap.size) (hb : Below w.heap.size w w2) (hk : ∀ k, k < w1.heap.size → w2.heap[k]? = w1.heap[k]?) : Bs w a b c n x y z w2 := by
 have hlt := h.lt
 obtain ⟨ch, e, r⟩ := h.H
 exact ⟨by omega, hb, ⟨ch, (hk _ hlt).trans e, r⟩, (hk _ (by omega)).trans h.T, rlies_step hs (fun g _ hg => hk g hg) h.A, rlies_step hs (fun g _ hg => hk g hg) h.B, rlies_step hs (fun g _ hg => hk g hg) h.C⟩
theorem Bs.alloc (h : Bs w a b c n x y z w1) (o : Obj) : Bs w a b c n x y z (w1.alloc o) :=
 h.far (by rw [← alloc_size]; omega) (h.bel.alloc (by have := h.lt; omega) _) fun k hk => Below.heap_alloc _ _ _ hk
theorem Bs.bytes (h : Bs w a b c n x y z w1) (s : ByteArray) : Bs w a b c n x y z (bw w1 s) :=
 h.far (by rw [bw_size]; omega) (bw_below _ h.bel (by have := h.lt; omega)) fun k hk => Below.heap_alloc w1.drew _ _ hk
theorem Bs.setH (h : Bs w a b c n x y z w1) (i : Nat) (u : Value) {a' b' c' : Option (Nat × Nat)} {n' : Nat}
  (hA : rlies w w1 110 a') (hB : rlies w w1 92 b') (hC : rlies w w1 34 c')
  (hi : ∀ ch : Array Value, ch.size = 257 → ch[10]? = some (repl a) → ch[92]? = some (repl b) → ch[34]? = some (repl c) → ch[256]? = some (.slice (some ⟨w.heap.size, 0, none⟩) n 3) →
   (ch.setIfInBounds i u)[10]? = some (repl a') ∧ (ch.setIfInBounds i u)[92]? = some (repl b') ∧ (ch.setIfInBounds i u)[34]? = some (repl c') ∧ (ch.setIfInBounds i u)[256]? = some (.slice (some ⟨w.heap.size, 0, none⟩) n' 3))
  (hi2 : i = 10 ∨ i = 92 ∨ i = 34 ∨ i = 256) : Bs w a' b' c' n' x y z (w1.setCell ⟨w.heap.size + 1, i, none⟩ u) := by
 have hlt := h.lt
 obtain ⟨ch, e, e1, e2, e3, e4, e5, e6⟩ := h.H
 have hf : ∀ g, w.heap.size + 1 < g → g < w1.heap.size → (w1.setCell ⟨w.heap.size + 1, i, none⟩ u).heap[g]? = w1.heap[g]? := fun g hg _ => Below.heap_setCell _ _ _ _ (by show g ≠ w.heap.size + 1; omega)
 have hs : w1.heap.size ≤ (w1.setCell ⟨w.heap.size + 1, i, none⟩ u).heap.size := by simp
 obtain ⟨k1, k2, k3, k4⟩ := hi ch e1 e2 e3 e4 e5
 refine ⟨by omega, h.bel.setCell (by show _ ≤ w.heap.size + 1; omega) _, ⟨_, blk_set e i u, by rw [Array.size_setIfInBounds]; exact e1, k1, k2, k3, k4, fun j j1 j2 j3 j4 => ?_⟩, (Below.heap_setCell _ _ _ _ (by show w.heap.size ≠ w.heap.size + 1; omega)).trans h.T, rlies_step hs hf hA, rlies_step hs hf hB, rlies_step hs hf hC⟩
 rw [Array.getElem?_setIfInBounds_ne (by omega)]; exact e6 j j1 j2 j3 j4
theorem Bs.setT (h : Bs w a b c n x y z w1) {x' y' z' : ByteArray} : Bs w a b c n x' y' z' (w1.setRow w.heap.size #[.string x', .string y', .string z']) := by
 have hlt := h.lt
 obtain ⟨ch, e, r⟩ := h.H
 have hs : w1.heap.size ≤ (w1.setRow w.heap.size #[.string x', .string y', .string z']).heap.size := by simp
 have hf : ∀ g, w.heap.size + 1 < g → g < w1.heap.size → (w1.setRow w.heap.size #[.string x', .string y', .string z']).heap[g]? = w1.heap[g]? := fun g hg _ => setRow_other _ _ _ _ (by omega)
 exact ⟨by omega, ⟨h.bel.os, h.bel.tape, h.bel.output, Nat.le_trans h.bel.size hs, fun k hk => (setRow_other _ _ _ _ (by omega)).trans (h.bel.block k hk)⟩, ⟨ch, (setRow_other _ _ _ _ (by omega)).trans e, r⟩, setRow_heap _ _ _ _ _ _ h.T, rlies_step hs hf h.A, rlies_step hs hf h.B, rlies_step hs hf h.C⟩
end
theorem bw_new (W : World) (s : ByteArray) (i : Nat) : (bw W s).cell? ⟨W.heap.size, i, none⟩ = (bytesRow s (grownCap W s.size 0 5))[i]? :=
 cell_of_row _ _ _ _ _ _ (heap_alloc_new W.drew _)
theorem rlies_new (w W : World) (k : UInt8) (h : w.heap.size + 1 < W.heap.size) : rlies w (bw W ⟨#[92, k]⟩) k.toNat (some (W.heap.size, grownCap W 2 0 5)) :=
 ⟨h, by rw [bw_size]; omega, grownCap_ge _ _ _ _, (bw_new _ _ _).trans (by unfold bytesRow; rw [Array.getElem?_append_left (by simp)]; first | (simp; done) | (simp; rfl)), (bw_new _ _ _).trans (by unfold bytesRow; rw [Array.getElem?_append_left (by simp)]; first | (simp; done) | (simp; rfl))⟩
theorem Bs.repA {w w1 : World} {a b c : Option (Nat × Nat)} {n : Nat} {x y z : ByteArray} (h : Bs w a b c n x y z w1) (m : Nat) :
  Bs w (some (w1.heap.size, grownCap (w1.setCell ⟨w.heap.size + 1, 256, none⟩ (.slice (some ⟨w.heap.size, 0, none⟩) m 3)) 2 0 5)) b c m x y z ((bw (w1.setCell ⟨w.heap.size + 1, 256, none⟩ (.slice (some ⟨w.heap.size, 0, none⟩) m 3)) ⟨#[92, 110]⟩).setCell ⟨w.heap.size + 1, 10, none⟩ (.slice (some ⟨w1.heap.size, 0, none⟩) 2 (grownCap (w1.setCell ⟨w.heap.size + 1, 256, none⟩ (.slice (some ⟨w.heap.size, 0, none⟩) m 3)) 2 0 5))) := by
 have h1 : Bs w a b c m x y z (w1.setCell ⟨w.heap.size + 1, 256, none⟩ (.slice (some ⟨w.heap.size, 0, none⟩) m 3)) :=
  h.setH 256 _ h.A h.B h.C (fun ch e1 e2 e3 e4 e5 => ⟨by rw [Array.getElem?_setIfInBounds_ne (by decide)]; exact e2, by rw [Array.getElem?_setIfInBounds_ne (by decide)]; exact e3, by rw [Array.getElem?_setIfInBounds_ne (by decide)]; exact e4, by rw [Array.getElem?_setIfInBounds_self_of_lt (by omega)]⟩) (by omega)
 have h2 := h1.bytes ⟨#[92, 110]⟩
 have hsz : (w1.setCell ⟨w.heap.size + 1, 256, none⟩ (.slice (some ⟨w.heap.size, 0, none⟩) m 3)).heap.size = w1.heap.size := by simp
 have hn := rlies_new w (w1.setCell ⟨w.heap.size + 1, 256, none⟩ (.slice (some ⟨w.heap.size, 0, none⟩) m 3)) 110 h1.lt; rw [hsz] at hn
 exact h2.setH 10 _ hn h2.B h2.C (fun ch e1 e2 e3 e4 e5 => ⟨by rw [Array.getElem?_setIfInBounds_self_of_lt (by omega)]; rfl, by rw [Array.getElem?_setIfInBounds_ne (by decide)]; exact e3, by rw [Array.getElem?_setIfInBounds_ne (by decide)]; exact e4, by rw [Array.getElem?_setIfInBounds_ne (by decide)]; exact e5⟩) (by omega)
theorem Bs.repB {w w1 : World} {a b c : Option (Nat × Nat)} {n : Nat} {x y z : ByteArray} (h : Bs w a b c n x y z w1) (m : Nat) :
  Bs w a (some (w1.heap.size, grownCap (w1.setCell ⟨w.heap.size + 1, 256, none⟩ (.slice (some ⟨w.heap.size, 0, none⟩) m 3)) 2 0 5)) c m x y z ((bw (w1.setCell ⟨w.heap.size + 1, 256, none⟩ (.slice (some ⟨w.heap.size, 0, none⟩) m 3)) ⟨#[92, 92]⟩).setCell ⟨w.heap.size + 1, 92, none⟩ (.slice (some ⟨w1.heap.size, 0, none⟩) 2 (grownCap (w1.setCell ⟨w.heap.size + 1, 256, none⟩ (.slice (some ⟨w.heap.size, 0, none⟩) m 3)) 2 0 5))) := by
 have h1 : Bs w a b c m x y z (w1.setCell ⟨w.heap.size + 1, 256, none⟩ (.slice (some ⟨w.heap.size, 0, none⟩) m 3)) :=
  h.setH 256 _ h.A h.B h.C (fun ch e1 e2 e3 e4 e5 => ⟨by rw [Array.getElem?_setIfInBounds_ne (by decide)]; exact e2, by rw [Array.getElem?_setIfInBounds_ne (by decide)]; exact e3, by rw [Array.getElem?_setIfInBounds_ne (by decide)]; exact e4, by rw [Array.getElem?_setIfInBounds_self_of_lt (by omega)]⟩) (by omega)
 have h2 := h1.bytes ⟨#[92, 92]⟩
 have hsz : (w1.setCell ⟨w.heap.size + 1, 256, none⟩ (.slice (some ⟨w.heap.size, 0, none⟩) m 3)).heap.size = w1.heap.size := by simp
 have hn := rlies_new w (w1.setCell ⟨w.heap.size + 1, 256, none⟩ (.slice (some ⟨w.heap.size, 0, none⟩) m 3)) 92 h1.lt; rw [hsz] at hn
 exact h2.setH 92 _ h2.A hn h2.C (fun ch e1 e2 e3 e4 e5 => ⟨by rw [Array.getElem?_setIfInBounds_ne (by decide)]; exact e2, by rw [Array.getElem?_setIfInBounds_self_of_lt (by omega)]; rfl, by rw [Array.getElem?_setIfInBounds_ne (by decide)]; exact e4, by rw [Array.getElem?_setIfInBounds_ne (by decide)]; exact e5⟩) (by omega)
theorem Bs.repC {w w1 : World} {a b c : Option (Nat × Nat)} {n : Nat} {x y z : ByteArray} (h : Bs w a b c n x y z w1) (m : Nat) :
  Bs w a b (some (w1.heap.size, grownCap (w1.setCell ⟨w.heap.size + 1, 256, none⟩ (.slice (some ⟨w.heap.size, 0, none⟩) m 3)) 2 0 5)) m x y z ((bw (w1.setCell ⟨w.heap.size + 1, 256, none⟩ (.slice (some ⟨w.heap.size, 0, none⟩) m 3)) ⟨#[92, 34]⟩).setCell ⟨w.heap.size + 1, 34, none⟩ (.slice (some ⟨w1.heap.size, 0, none⟩) 2 (grownCap (w1.setCell ⟨w.heap.size + 1, 256, none⟩ (.slice (some ⟨w.heap.size, 0, none⟩) m 3)) 2 0 5))) := by
 have h1 : Bs w a b c m x y z (w1.setCell ⟨w.heap.size + 1, 256, none⟩ (.slice (some ⟨w.heap.size, 0, none⟩) m 3)) :=
  h.setH 256 _ h.A h.B h.C (fun ch e1 e2 e3 e4 e5 => ⟨by rw [Array.getElem?_setIfInBounds_ne (by decide)]; exact e2, by rw [Array.getElem?_setIfInBounds_ne (by decide)]; exact e3, by rw [Array.getElem?_setIfInBounds_ne (by decide)]; exact e4, by rw [Array.getElem?_setIfInBounds_self_of_lt (by omega)]⟩) (by omega)
 have h2 := h1.bytes ⟨#[92, 34]⟩
 have hsz : (w1.setCell ⟨w.heap.size + 1, 256, none⟩ (.slice (some ⟨w.heap.size, 0, none⟩) m 3)).heap.size = w1.heap.size := by simp
 have hn := rlies_new w (w1.setCell ⟨w.heap.size + 1, 256, none⟩ (.slice (some ⟨w.heap.size, 0, none⟩) m 3)) 34 h1.lt; rw [hsz] at hn
 exact h2.setH 34 _ h2.A h2.B hn (fun ch e1 e2 e3 e4 e5 => ⟨by rw [Array.getElem?_setIfInBounds_ne (by decide)]; exact e2, by rw [Array.getElem?_setIfInBounds_ne (by decide)]; exact e3, by rw [Array.getElem?_setIfInBounds_self_of_lt (by omega)]; rfl, by rw [Array.getElem?_setIfInBounds_ne (by decide)]; exact e5⟩) (by omega)
theorem app_run {W : World} {T n : Nat} {cur : Array Value} (hT : W.heap[T]? = some (.cells cur 9 (0, 0))) (hs : cur.size = 3) (hn : n + 1 ≤ 3) (g : Nat) (s : ByteArray) (hg : W.cell? ⟨g, 0, none⟩ = some (.string s)) (ty : TypeId) :
  (Builtin.append_ #[29, 29] ty #[.slice (some ⟨T, 0, none⟩) n 3, .slice (some ⟨g, 0, none⟩) 1 1]).run Tryz.prog W = .ok (.slice (some ⟨T, 0, none⟩) (n + 1) 3) (W.setRow T (cur.toList.take n ++ [Value.string s] ++ cur.toList.drop (n + 1)).toArray) := by
 have hi : (Tryz.prog.info? 9).map (fun i => i.size) = some 1 := by kernel_rfl
 cases h : Tryz.prog.info? 9 with
 | none => simp [h] at hi
 | some i =>
  have hi : i.size = 1 := by simpa [h] using hi
  have := run_append_room (P := Tryz.prog) (w := W) 29 ty 9 i Tryz.underlying29 h T n 3 cur hT ⟨g, 0, none⟩ 1 1 [.string s] (by simp [hi]) (fun j u hj => by
   rcases j with _ | j
   · simp at hj; subst hj; exact hg
   simp at hj) (by simp [Value.oneCell']) (by omega) (by simp [hi, hs]; omega)
  simpa [hi] using this
theorem wpList_append_run {P : Program} {ops : Array Oper} {rest : List Oper} {o : Oper} {a : Act} {w : World} {Q : Exit → Act → World → Prop} (hgd : o.guard = none) (s x : Operand) (t : TypeId)
  (ho : o.op = .call { callee := .builtin .append, args := #[s, x], argTypes := #[t, t] }) (v1 v2 : Value) (hs : a.eval s = v1) (hx : a.eval x = v2) (v' : Value) (w' : World)
  (hr : ∀ ty, (Builtin.append_ #[t, t] ty #[v1, v2]).run P w = .ok v' w') (Φ : World → Prop) (hΦ : Φ w') (h : ∀ w', Φ w' → wpList P ops Q rest (a.put o.dst v') w') : wpList P ops Q (o :: rest) a w := by
 refine wpList_plain hgd fun _ hK => ?_
 unfold Oper.wp execOp
 simp only [ho, resolve, invoke, builtin, Sem.run_bind, Sem.run_pure, Result.andThen_ok, List.map_toArray, List.map_cons, List.map_nil, hs, hx, hr]
 exact hK _ _ (h w' hΦ)
structure StopAt (p : Prop) : Prop where
  out : p
theorem rounds_gen {P : Program} {c : Code} {Q : Exit → Act → World → Prop} {n : Nat} {a : Act} {w : World} {Φ : World → Prop} (h : Φ w) (k : ∀ w', Φ w' → Code.rounds P c Q n a w') : Code.rounds P c Q n a w := k w h
set_option maxRecDepth 1000000 in
set_option maxHeartbeats 4000000 in
theorem build_any (g q c : Nat) (w : World) (hg : w.heap[g]? = some (.cells #[.int .u32 0, .int .i32 1, .int .u32 0, Value.nilIface, .slice (some ⟨q, 0, none⟩) 6 c] 188 (0, 0)))
  (q0 : w.cell? ⟨q, 0, none⟩ = some (.string ⟨#[34]⟩)) (q1 : w.cell? ⟨q, 1, none⟩ = some (.string ⟨#[92, 34]⟩))
  (q2 : w.cell? ⟨q, 2, none⟩ = some (.string ⟨#[92]⟩)) (q3 : w.cell? ⟨q, 3, none⟩ = some (.string ⟨#[92, 92]⟩))
  (q4 : w.cell? ⟨q, 4, none⟩ = some (.string ⟨#[10]⟩)) (q5 : w.cell? ⟨q, 5, none⟩ = some (.string ⟨#[92, 110]⟩)) :
  Calls Tryz.prog 169 #[.pointer (some ⟨g, 0, none⟩)] w fun e w' => e = .returned (.iface 216 (.pointer (some ⟨w.heap.size + 1, 0, none⟩))) ∧ ∃ gA gB gC, Bs w (some gA) (some gB) (some gC) 3 ⟨#[10]⟩ ⟨#[92]⟩ ⟨#[34]⟩ w' := by
 have h4 : w.cell? ⟨g, 4, none⟩ = some (.slice (some ⟨q, 0, none⟩) 6 c) := blk_cell hg 4
 have b0 : ∀ h, (((⟨#[34]⟩ : ByteArray)[0]'h).toNat : Int) = 34 := fun _ => rfl
 have b1 : ∀ h, (((⟨#[92]⟩ : ByteArray)[0]'h).toNat : Int) = 92 := fun _ => rfl
 have b2 : ∀ h, (((⟨#[10]⟩ : ByteArray)[0]'h).toNat : Int) = 10 := fun _ => rfl
 have s0 : (⟨#[34]⟩ : ByteArray).size = 1 := rfl
 have s1 : (⟨#[92, 34]⟩ : ByteArray).size = 2 := rfl
 have s2 : (⟨#[92]⟩ : ByteArray).size = 1 := rfl
 have s3 : (⟨#[92, 92]⟩ : ByteArray).size = 2 := rfl
 have s4 : (⟨#[10]⟩ : ByteArray).size = 1 := rfl
 have s5 : (⟨#[92, 110]⟩ : ByteArray).size = 2 := rfl
 have mk3 := make3
 have hz176 : Tryz.zeroCells215.size = 257 := by kernel_rfl
 have hnil : ∀ (a : Option Addr) (l c : Nat) (W : World), (binOp .eql 74 (.slice a l c) (.slice none 0 0)).run Tryz.prog W = .ok (.bool a.isNone) W := fun a l c W => by
  unfold binOp
  simp [Op.equal, Op.maxDepth, Lib.run_equalIn_slice_nil W 9999 74 5 a l c 0 0 Tryz.underlying74]
 have cv0 : ∀ W : World, (convert 74 9 (.slice (some ⟨W.heap.size, 0, none⟩) 1 1)).run Tryz.prog (W.alloc (.cells #[.int .u8 34] 5)) = .ok (.string ⟨#[34]⟩) (W.alloc (.cells #[.int .u8 34] 5)) := one_back 34
 have cv1 : ∀ W : World, (convert 74 9 (.slice (some ⟨W.heap.size, 0, none⟩) 1 1)).run Tryz.prog (W.alloc (.cells #[.int .u8 92] 5)) = .ok (.string ⟨#[92]⟩) (W.alloc (.cells #[.int .u8 92] 5)) := one_back 92
 have cv2 : ∀ W : World, (convert 74 9 (.slice (some ⟨W.heap.size, 0, none⟩) 1 1)).run Tryz.prog (W.alloc (.cells #[.int .u8 10] 5)) = .ok (.string ⟨#[10]⟩) (W.alloc (.cells #[.int .u8 10] 5)) := one_back 10
 have hbw := bw_run
 have hqlt : q < w.heap.size := lt_of_cell q0
 obtain ⟨cz, hcz⟩ : ∃ c, c = Tryz.zeroCells215.setIfInBounds 256 (.slice (some ⟨w.heap.size, 0, none⟩) 0 3) := ⟨_, rfl⟩
 obtain ⟨w1, hw1⟩ : ∃ x, x = (w.alloc (.cells #[.string ⟨#[]⟩, .string ⟨#[]⟩, .string ⟨#[]⟩] 9)).alloc (.cells cz 215) := ⟨_, rfl⟩
 have hst : Sem.run Tryz.prog (storeCells ⟨w.heap.size + 1, 0, none⟩ (Tryz.zeroCells215.toList.set 256 (.slice (some ⟨w.heap.size, 0, none⟩) 0 3))) ((w.alloc (.cells #[.string ⟨#[]⟩, .string ⟨#[]⟩, .string ⟨#[]⟩] 9)).alloc (.cells Tryz.zeroCells215 215)) = .ok () w1 := by
  have := run_storeCells_new (P := Tryz.prog) (w.alloc (.cells #[.string ⟨#[]⟩, .string ⟨#[]⟩, .string ⟨#[]⟩] 9)) 215 Tryz.zeroCells215 cz (by subst hcz; rw [Array.size_setIfInBounds]; kernel_rfl) (by subst hcz; rw [Array.size_setIfInBounds]) (by subst hcz; kernel_rfl)
  rw [hw1, ← this, hcz, Array.toList_setIfInBounds]; rw [← alloc_size]
 have hs1 : w1.heap.size = w.heap.size + 2 := by subst hw1; rw [← alloc_size, ← alloc_size]
 have B1 : Bs w none none none 0 ⟨#[]⟩ ⟨#[]⟩ ⟨#[]⟩ w1 := by
  refine ⟨by omega, ?_, ⟨cz, ?_, ?_, ?_, ?_, ?_, ?_, ?_⟩, ?_, trivial, trivial, trivial⟩
  · subst hw1; exact ((Below.refl _ _).alloc (Nat.le_refl _) _).alloc (by rw [← alloc_size]; omega) _
  · subst hw1; rw [alloc_size]; exact heap_alloc_new _ _
  · subst hcz; rw [Array.size_setIfInBounds, hz176]
  · subst hcz; rw [Array.getElem?_setIfInBounds_ne (by decide)]; kernel_rfl
  · subst hcz; rw [Array.getElem?_setIfInBounds_ne (by decide)]; kernel_rfl
  · subst hcz; rw [Array.getElem?_setIfInBounds_ne (by decide)]; kernel_rfl
  · subst hcz; rw [Array.getElem?_setIfInBounds_self_of_lt (by rw [hz176]; omega)]
  rotate_left
  · subst hw1; exact (Below.heap_alloc _ _ _ (by rw [← alloc_size]; omega)).trans (heap_alloc_new _ _)
  intro i i1 i2 i3 i4
  subst hcz; rw [Array.getElem?_setIfInBounds_ne (by omega)]
  have hall : (List.range 256).all (fun i => match Tryz.zeroCells215[i]? with | some (.slice none 0 0) => true | _ => false) = true := by kernel_rfl
  have := List.all_eq_true.1 hall i (List.mem_range.2 i1)
  split at this
  · assumption
  exact absurd this (by simp)
 have HB1 := Aside0.mk B1; clear hw1 hcz hs1 B1; have HG := Aside0.mk hg; have HB := Aside0.mk (Below.refl w.heap.size w); clear hg
 go_enter Tryz.func169, Tryz.ntmps169
 go_wp2_with fail
 refine wp_loop_rounds 4 ?_; rw [rounds_succ]
 go_wp2_with fail
 rw [rounds_succ]
 go_wp2_with fail
 rw [rounds_succ]
 go_wp2_with fail
 rw [rounds_succ]
 go_wp2_with fail
 refine wp_loop_rounds 4 ?_
 refine rounds_gen HB1.out ?_
 rintro v1 B1
 rw [rounds_succ]; have r0a := (B1.bel.cell (p := ⟨q, 4, none⟩) hqlt).trans q4; have r0b := (B1.bel.cell (p := ⟨q, 5, none⟩) hqlt).trans q5
 obtain ⟨ch, e, e1, e2, e3, e4, e5, e6⟩ := B1.H
 have cA := (blk_cell e 10).trans e2; have cT := (blk_cell e 256).trans e5; have lt1 := B1.lt
 simp only [repl] at cA
 have HB2 := Aside0.mk B1; clear B1 e e1 e2 e3 e4 e5 e6
 go_wp2_with (at_builtin; refine wpList_append_run rfl (.tmp 119) (.tmp 123) 29 rfl _ _ rfl rfl _ _ (app_run ((HB2.out.alloc _).alloc _).T rfl (by decide) _ ⟨#[10]⟩ (World.cell?_alloc_at _ _ _ _ (alloc_size _ _))) (Bs w none none none 0 ⟨#[10]⟩ ⟨#[]⟩ ⟨#[]⟩) ((HB2.out.alloc _).alloc _).setT ?_; intro w2 B2; apply StopAt.out)
 apply StopAt.mk
 obtain ⟨ch2, e, e1, e2, e3, e4, e5, e6⟩ := B2.H
 have lt2 := B2.lt; have d10 := (blk_cell e 10).trans e2; have d256 := (blk_cell e 256).trans e5; have f10 := blk_frozen e 10; have f256 := blk_frozen e 256
 have o10 : (bw (w2.setCell ⟨w.heap.size + 1, 256, none⟩ (.slice (some ⟨w.heap.size, 0, none⟩) 1 3)) ⟨#[92, 110]⟩).cell? ⟨w.heap.size + 1, 10, none⟩ = some (repl none) := (bw_old _ _ _ _ (by simp; omega)).trans ((World.cell?_setCell_other _ _ _ _ (by simp)).trans d10)
 have o10f : (bw (w2.setCell ⟨w.heap.size + 1, 256, none⟩ (.slice (some ⟨w.heap.size, 0, none⟩) 1 3)) ⟨#[92, 110]⟩).frozen? ⟨w.heap.size + 1, 10, none⟩ = false := (bw_oldF _ _ _ _ (by simp; omega)).trans (by simp [f10])
 have HB3 := Aside0.mk B2; clear B2 e e1 e2 e3 e4 e5 e6 HB2 cA cT lt1 r0a r0b
 go_wp2_with fail
 have B4 := HB3.out.repA 1
 refine rounds_gen (Φ := fun v => Bs w (some (w2.heap.size, grownCap (w2.setCell ⟨w.heap.size + 1, 256, none⟩ (.slice (some ⟨w.heap.size, 0, none⟩) 1 3)) 2 0 5)) none none 1 ⟨#[10]⟩ ⟨#[]⟩ ⟨#[]⟩ v) B4 ?_
 clear B4 lt2 d10 d256 f10 f256 o10 o10f HB3
 obtain ⟨gA, hgA⟩ : ∃ g, g = (w2.heap.size, grownCap (w2.setCell ⟨w.heap.size + 1, 256, none⟩ (.slice (some ⟨w.heap.size, 0, none⟩) 1 3)) 2 0 5) := ⟨_, rfl⟩
 rw [← hgA]; clear hgA
 rintro v2 B1
 rw [rounds_succ]; have r1a := (B1.bel.cell (p := ⟨q, 2, none⟩) hqlt).trans q2; have r1b := (B1.bel.cell (p := ⟨q, 3, none⟩) hqlt).trans q3
 obtain ⟨ch, e, e1, e2, e3, e4, e5, e6⟩ := B1.H
 have cA := (blk_cell e 92).trans e3; have cT := (blk_cell e 256).trans e5; have lt1 := B1.lt
 simp only [repl] at cA
 have HB2 := Aside0.mk B1; clear B1 e e1 e2 e3 e4 e5 e6
 go_wp2_with (at_builtin; refine wpList_append_run rfl (.tmp 119) (.tmp 123) 29 rfl _ _ rfl rfl _ _ (app_run ((HB2.out.alloc _).alloc _).T rfl (by decide) _ ⟨#[92]⟩ (World.cell?_alloc_at _ _ _ _ (alloc_size _ _))) (Bs w (some gA) none none 1 ⟨#[10]⟩ ⟨#[92]⟩ ⟨#[]⟩) ((HB2.out.alloc _).alloc _).setT ?_; intro w2 B2; apply StopAt.out)
 apply StopAt.mk
 obtain ⟨ch2, e, e1, e2, e3, e4, e5, e6⟩ := B2.H
 have lt2 := B2.lt; have d10 := (blk_cell e 92).trans e3; have d256 := (blk_cell e 256).trans e5; have f10 := blk_frozen e 92; have f256 := blk_frozen e 256
 have o10 : (bw (w2.setCell ⟨w.heap.size + 1, 256, none⟩ (.slice (some ⟨w.heap.size, 0, none⟩) 2 3)) ⟨#[92, 92]⟩).cell? ⟨w.heap.size + 1, 92, none⟩ = some (repl none) := (bw_old _ _ _ _ (by simp; omega)).trans ((World.cell?_setCell_other _ _ _ _ (by simp)).trans d10)
 have o10f : (bw (w2.setCell ⟨w.heap.size + 1, 256, none⟩ (.slice (some ⟨w.heap.size, 0, none⟩) 2 3)) ⟨#[92, 92]⟩).frozen? ⟨w.heap.size + 1, 92, none⟩ = false := (bw_oldF _ _ _ _ (by simp; omega)).trans (by simp [f10])
 have HB3 := Aside0.mk B2; clear B2 e e1 e2 e3 e4 e5 e6 HB2 cA cT lt1 r1a r1b
 go_wp2_with fail
 have B4 := HB3.out.repB 2
 refine rounds_gen (Φ := fun v => Bs w (some gA) (some (w2.heap.size, grownCap (w2.setCell ⟨w.heap.size + 1, 256, none⟩ (.slice (some ⟨w.heap.size, 0, none⟩) 2 3)) 2 0 5)) none 2 ⟨#[10]⟩ ⟨#[92]⟩ ⟨#[]⟩ v) B4 ?_
 clear B4 lt2 d10 d256 f10 f256 o10 o10f HB3
 obtain ⟨gB, hgB⟩ : ∃ g, g = (w2.heap.size, grownCap (w2.setCell ⟨w.heap.size + 1, 256, none⟩ (.slice (some ⟨w.heap.size, 0, none⟩) 2 3)) 2 0 5) := ⟨_, rfl⟩
 rw [← hgB]; clear hgB
 rintro v3 B1
 rw [rounds_succ]; have r2a := (B1.bel.cell (p := ⟨q, 0, none⟩) hqlt).trans q0; have r2b := (B1.bel.cell (p := ⟨q, 1, none⟩) hqlt).trans q1
 obtain ⟨ch, e, e1, e2, e3, e4, e5, e6⟩ := B1.H
 have cA := (blk_cell e 34).trans e4; have cT := (blk_cell e 256).trans e5; have lt1 := B1.lt
 simp only [repl] at cA
 have HB2 := Aside0.mk B1; clear B1 e e1 e2 e3 e4 e5 e6
 go_wp2_with (at_builtin; refine wpList_append_run rfl (.tmp 119) (.tmp 123) 29 rfl _ _ rfl rfl _ _ (app_run ((HB2.out.alloc _).alloc _).T rfl (by decide) _ ⟨#[34]⟩ (World.cell?_alloc_at _ _ _ _ (alloc_size _ _))) (Bs w (some gA) (some gB) none 2 ⟨#[10]⟩ ⟨#[92]⟩ ⟨#[34]⟩) ((HB2.out.alloc _).alloc _).setT ?_; intro w2 B2; apply StopAt.out)
 apply StopAt.mk
 obtain ⟨ch2, e, e1, e2, e3, e4, e5, e6⟩ := B2.H
 have lt2 := B2.lt; have d10 := (blk_cell e 34).trans e4; have d256 := (blk_cell e 256).trans e5; have f10 := blk_frozen e 34; have f256 := blk_frozen e 256
 have o10 : (bw (w2.setCell ⟨w.heap.size + 1, 256, none⟩ (.slice (some ⟨w.heap.size, 0, none⟩) 3 3)) ⟨#[92, 34]⟩).cell? ⟨w.heap.size + 1, 34, none⟩ = some (repl none) := (bw_old _ _ _ _ (by simp; omega)).trans ((World.cell?_setCell_other _ _ _ _ (by simp)).trans d10)
 have o10f : (bw (w2.setCell ⟨w.heap.size + 1, 256, none⟩ (.slice (some ⟨w.heap.size, 0, none⟩) 3 3)) ⟨#[92, 34]⟩).frozen? ⟨w.heap.size + 1, 34, none⟩ = false := (bw_oldF _ _ _ _ (by simp; omega)).trans (by simp [f10])
 have HB3 := Aside0.mk B2; clear B2 e e1 e2 e3 e4 e5 e6 HB2 cA cT lt1 r2a r2b
 go_wp2_with fail
 have B4 := HB3.out.repC 3
 refine rounds_gen (Φ := fun v => Bs w (some gA) (some gB) (some (w2.heap.size, grownCap (w2.setCell ⟨w.heap.size + 1, 256, none⟩ (.slice (some ⟨w.heap.size, 0, none⟩) 3 3)) 2 0 5)) 3 ⟨#[10]⟩ ⟨#[92]⟩ ⟨#[34]⟩ v) B4 ?_
 clear B4 lt2 d10 d256 f10 f256 o10 o10f HB3
 obtain ⟨gC, hgC⟩ : ∃ g, g = (w2.heap.size, grownCap (w2.setCell ⟨w.heap.size + 1, 256, none⟩ (.slice (some ⟨w.heap.size, 0, none⟩) 3 3)) 2 0 5) := ⟨_, rfl⟩
 rw [← hgC]; clear hgC
 rintro v4 B1
 rw [rounds_succ]; have HB2 := Aside0.mk B1; clear B1
 go_wp2_with fail
 go_ret
 exact ⟨rfl, gA, gB, gC, HB2.out⟩
end Go.Proofs.YtkedidjjhhjdbaaGreatDoor.Pr
end
section
set_option linter.unusedVariables false
set_option linter.unusedSimpArgs false
namespace Go.Proofs.YtkedidjjhhjdbaaGreatDoor.Pr
open Go.RowKit Go.Proofs.YtkedidjjhhjdbaaGreatDoorW.PrintWords Go.Proofs.YtkedidjjhhjdbaaGreatDoorW.PrintLast Go.Proofs.YtkedidjjhhjdbaaGreatDoorW.PrintMore
def two (T : Nat) (W : World) (k : Nat) (v : Option Value) : Prop := ∃ g c, v = some (.slice (some ⟨g, 0, none⟩) 2 c) ∧ T + 1 < g ∧ g < W.heap.size ∧ 2 ≤ c ∧ W.cell? ⟨g, 0, none⟩ = some (.int .u8 92) ∧ W.cell? ⟨g, 1, none⟩ = some (.int .u8 (k : Int))
def Ws (T : Nat) (W : World) : Prop := ∃ ch, W.heap[T + 1]? = some (.cells ch 215 (0, 0)) ∧ T + 1 < W.heap.size ∧ two T W 110 ch[10]? ∧ two T W 92 ch[92]? ∧ two T W 34 ch[34]? ∧
  ch[256]? = some (.slice (some ⟨T, 0, none⟩) 3 3) ∧ (∀ i, i < 256 → i ≠ 10 → i ≠ 92 → i ≠ 34 → ch[i]? = some (.slice none 0 0)) ∧ W.heap[T]? = some (.cells #[.string ⟨#[10]⟩, .string ⟨#[92]⟩, .string ⟨#[34]⟩] 9 (0, 0))
theorem two_far {T k : Nat} {W W' : World} {v : Option Value} (h : two T W k v) (hs : W.heap.size ≤ W'.heap.size) (hk : ∀ i, T ≤ i → i < W.heap.size → W'.heap[i]? = W.heap[i]?) : two T W' k v := by
 obtain ⟨g, c, e, a1, a2, a3, a4, a5⟩ := h
 exact ⟨g, c, e, a1, by omega, a3, (World.cell?_of_block (w := W) (hk g (by omega) a2)).trans a4, (World.cell?_of_block (w := W) (hk g (by omega) a2)).trans a5⟩
theorem Ws.far {T : Nat} {W W' : World} (h : Ws T W) (hs : W.heap.size ≤ W'.heap.size) (hk : ∀ i, T ≤ i → i < W.heap.size → W'.heap[i]? = W.heap[i]?) : Ws T W' := by
 obtain ⟨ch, e, lt, a, b, c, d, f, t⟩ := h
 exact ⟨ch, (hk _ (by omega) lt).trans e, by omega, two_far a hs hk, two_far b hs hk, two_far c hs hk, d, f, (hk _ (by omega) (by omega)).trans t⟩
theorem Bs.ws {w w' : World} {gA gB gC : Nat × Nat} (h : Bs w (some gA) (some gB) (some gC) 3 ⟨#[10]⟩ ⟨#[92]⟩ ⟨#[34]⟩ w') : Ws w.heap.size w' := by
 obtain ⟨ch, e, e1, e2, e3, e4, e5, e6⟩ := h.H
 obtain ⟨a1, a2, a3, a4, a5⟩ := h.A
 obtain ⟨b1, b2, b3, b4, b5⟩ := h.B
 obtain ⟨c1, c2, c3, c4, c5⟩ := h.C
 exact ⟨ch, e, h.lt, ⟨_, _, e2, a1, a2, a3, a4, a5⟩, ⟨_, _, e3, b1, b2, b3, b4, b5⟩, ⟨_, _, e4, c1, c2, c3, c4, c5⟩, e5, e6, h.T⟩
def RR (w0 : World) (g T : Nat) (W : World) : Prop := Below w0.heap.size w0 W ∧ Ws T W
theorem RR.set {w0 : World} {g T : Nat} {W : World} (h : RR w0 g T W) (hg : w0.heap.size ≤ g) (hT : g < T) (j : Nat) (u : Value) : RR w0 g T (W.setCell ⟨g, j, none⟩ u) :=
 ⟨h.1.setCell hg _, h.2.far (by simp) fun i hi _ => Below.heap_setCell _ _ _ _ (by show i ≠ g; omega)⟩
theorem RR.drew {w0 : World} {g T : Nat} {W : World} (h : RR w0 g T W) : RR w0 g T W.drew := ⟨h.1.drew, h.2.far (Nat.le_refl _) fun i _ _ => rfl⟩
set_option maxRecDepth 1000000 in
set_option maxHeartbeats 4000000 in
theorem once_any (w0 : World) (g q c : Nat) (w : World) (hg : w.heap[g]? = some (.cells #[.int .u32 0, .int .i32 1, .int .u32 0, Value.nilIface, .slice (some ⟨q, 0, none⟩) 6 c] 188 (0, 0)))
  (q0 : w.cell? ⟨q, 0, none⟩ = some (.string ⟨#[34]⟩)) (q1 : w.cell? ⟨q, 1, none⟩ = some (.string ⟨#[92, 34]⟩))
  (q2 : w.cell? ⟨q, 2, none⟩ = some (.string ⟨#[92]⟩)) (q3 : w.cell? ⟨q, 3, none⟩ = some (.string ⟨#[92, 92]⟩))
  (q4 : w.cell? ⟨q, 4, none⟩ = some (.string ⟨#[10]⟩)) (q5 : w.cell? ⟨q, 5, none⟩ = some (.string ⟨#[92, 110]⟩)) (hn : w0.heap.size ≤ g) (hb : Below w0.heap.size w0 w) :
  Calls Tryz.prog 153 #[.pointer (some ⟨g, 0, none⟩)] w fun e w' => e = .returned (.tuple #[]) ∧
   w'.heap[g]? = some (.cells #[.int .u32 0, .int .i32 1, .int .u32 0, .iface 216 (.pointer (some ⟨w.heap.size + 1, 0, none⟩)), .slice none 0 0] 188 (0, 0)) ∧ RR w0 g w.heap.size w' := by
 have hlt : g < w.heap.size := (Array.getElem?_eq_some_iff.1 hg).1
 have H := Aside0.mk (build_any g q c w hg q0 q1 q2 q3 q4 q5); have HG := Aside0.mk hg; have HB := Aside0.mk hb; clear hg q0 q1 q2 q3 q4 q5 hb
 go_enter Tryz.func153, Tryz.ntmps153
 go_wp2_with (go_at_call 169; refine H.out.mono ?_; rintro e w1 ⟨rfl, gA, gB, gC, B1⟩; apply StopAt.out)
 apply StopAt.mk
 have bg : w1.heap[g]? = _ := (B1.bel.block g hlt).trans HG.out
 have c3 := blk_cell bg 3; have c4 := blk_cell bg 4; have f3 := blk_frozen bg 3; have f4 := blk_frozen bg 4; have b3 := blk_set bg 3 (.iface 216 (.pointer (some ⟨w.heap.size + 1, 0, none⟩))); have b4 := blk_set b3 4 (.slice none 0 0)
 have hR : RR w0 g w.heap.size w1 := ⟨HB.out.trans (B1.bel.mono (by have := HB.out.size; omega)), B1.ws⟩
 have HR := Aside0.mk ((hR.set hn hlt 3 (.iface 216 (.pointer (some ⟨w.heap.size + 1, 0, none⟩)))).set hn hlt 4 (.slice none 0 0)); have B4 := Aside0.mk b4; clear B1 bg b3 b4 hR
 simp at c3 c4
 go_wp2_with fail
 go_end0
 exact ⟨rfl, B4.out, HR.out⟩
set_option maxRecDepth 1000000 in
set_option maxHeartbeats 4000000 in
theorem do_first (w0 : World) (g q c : Nat) (w : World) (hg : w.heap[g]? = some (.cells #[.int .u32 0, .int .i32 0, .int .u32 0, Value.nilIface, .slice (some ⟨q, 0, none⟩) 6 c] 188 (0, 0)))
  (q0 : w.cell? ⟨q, 0, none⟩ = some (.string ⟨#[34]⟩)) (q1 : w.cell? ⟨q, 1, none⟩ = some (.string ⟨#[92, 34]⟩))
  (q2 : w.cell? ⟨q, 2, none⟩ = some (.string ⟨#[92]⟩)) (q3 : w.cell? ⟨q, 3, none⟩ = some (.string ⟨#[92, 92]⟩))
  (q4 : w.cell? ⟨q, 4, none⟩ = some (.string ⟨#[10]⟩)) (q5 : w.cell? ⟨q, 5, none⟩ = some (.string ⟨#[92, 110]⟩)) (hqg : q ≠ g) (hn : w0.heap.size ≤ g) (hb : Below w0.heap.size w0 w) :
  Calls Tryz.prog 152 #[.pointer (some ⟨g, 0, none⟩), .func (.func 153) #[.pointer (some ⟨g, 0, none⟩)] #[]] w fun e w' => e = .returned (.tuple #[]) ∧
   w'.heap[g]? = some (.cells #[.int .u32 1, .int .i32 0, .int .u32 0, .iface 216 (.pointer (some ⟨w.heap.size + 1, 0, none⟩)), .slice none 0 0] 188 (0, 0)) ∧ RR w0 g w.heap.size w' := by
 have hlt : g < w.heap.size := (Array.getElem?_eq_some_iff.1 hg).1
 have hsz : (w.setCell ⟨g, 1, none⟩ (.int .i32 1)).heap.size = w.heap.size := by simp
 have hk : ∀ i, (w.setCell ⟨g, 1, none⟩ (.int .i32 1)).cell? ⟨q, i, none⟩ = w.cell? ⟨q, i, none⟩ := fun i => World.cell?_setCell_other _ _ _ _ (by simp [hqg])
 have hF := once_any w0 g q c (w.setCell ⟨g, 1, none⟩ (.int .i32 1)) (blk_set hg 1 _) ((hk 0).trans q0) ((hk 1).trans q1) ((hk 2).trans q2) ((hk 3).trans q3) ((hk 4).trans q4) ((hk 5).trans q5) hn (hb.setCell hn _); rw [hsz] at hF
 have HS := Aside0.mk (slow_any g _ _ _ _ w (RR w0 g w.heap.size) hg hF (fun W j u h => h.set hn hlt j u) (fun W h => h.drew))
 have hl := run_call_load (P := Tryz.prog) Tryz.func173 (by kernel_rfl) (by kernel_rfl) (by kernel_rfl) .u32 (by kernel_rfl) (w := w) (a := ⟨g, 0, none⟩) (x := 0) (blk_cell hg 0)
 have hnot : ∀ (x : Bool) (w : World), (Op.unary .not (.bool x)).run Tryz.prog w = .ok (.bool (!x)) w := fun _ _ => rfl
 clear hF hg q0 q1 q2 q3 q4 q5 hk hb hsz
 go_enter Tryz.func152, Tryz.ntmps152
 go_wp2_with (first | (go_at_call 168; refine HS.out.mono ?_; rintro e w' ⟨rfl, B5, R5⟩; have B6 := Aside0.mk B5; have R6 := Aside0.mk R5; clear B5 R5) | (go_at_call 167; go_in))
 go_end0
 exact ⟨rfl, B6.out, R6.out⟩
end Go.Proofs.YtkedidjjhhjdbaaGreatDoor.Pr
end
section
set_option linter.unusedVariables false
set_option linter.unusedSimpArgs false
namespace Go.Proofs.YtkedidjjhhjdbaaGreatDoor.Pr
open Go.RowKit Go.Proofs.YtkedidjjhhjdbaaGreatDoorW.PrintWords Go.Proofs.YtkedidjjhhjdbaaGreatDoorW.PrintLast Go.Proofs.YtkedidjjhhjdbaaGreatDoorW.PrintMore
def plainQ (s : ByteArray) : Bool := decide (s.size < 24) && s.data.all fun b => b != 10 && b != 92 && b != 34
theorem plainQ_at {s : ByteArray} (h : plainQ s = true) (i : Nat) (hi : i < s.size) : (s[i]'hi).toNat ≠ 10 ∧ (s[i]'hi).toNat ≠ 92 ∧ (s[i]'hi).toNat ≠ 34 := by
 simp only [plainQ, Bool.and_eq_true, decide_eq_true_eq] at h
 have h2 := Array.all_eq_true.1 h.2 i hi
 simp only [Bool.and_eq_true, bne_iff_ne, ne_eq] at h2
 obtain ⟨⟨a, b⟩, c⟩ := h2
 refine ⟨fun e => a ?_, fun e => b ?_, fun e => c ?_⟩ <;> exact UInt8.toNat_inj.1 e
set_option maxRecDepth 1000000 in
set_option maxHeartbeats 4000000 in
theorem bsr_plain (T : Nat) (s : ByteArray) (w : World) (hW : Ws T w) (hs : plainQ s = true) :
  Calls Tryz.prog 227 #[.pointer (some ⟨T + 1, 0, none⟩), .string s] w fun e w' => e = .returned (.string s) ∧ w' = w := by
 obtain ⟨ch, e, lt, a, b, c, d, f, t⟩ := hW
 have d1 : w.cell? ⟨T + 1, 256, none⟩ = some (.slice (some ⟨T, 0, none⟩) 3 3) := (blk_cell e 256).trans d
 have hlt : (s.size : Int) < 24 := by
  simp only [plainQ, Bool.and_eq_true, decide_eq_true_eq] at hs
  omega
 have hnot : ∀ (x : Bool) (w : World), (Op.unary .not (.bool x)).run Tryz.prog w = .ok (.bool (!x)) w := fun _ _ => rfl
 have hnil : ∀ (W : World), (binOp .neq 74 (.slice none 0 0) (.slice none 0 0)).run Tryz.prog W = .ok (.bool false) W := fun W => run_neq_slice_nil_any W 74 5 none 0 0 0 0 Tryz.underlying74
 have HX : Aside0 (∀ i, (h : i < s.size) → w.cell? ⟨T + 1, (s[i]'h).toNat, none⟩ = some (.slice none 0 0)) := ⟨fun i h => by
  obtain ⟨h1, h2, h3⟩ := plainQ_at hs i h
  exact (blk_cell e _).trans (f _ (UInt8.toNat_lt _) h1 h2 h3)⟩
 clear e a b c d f t hs
 go_enter Tryz.func227, Tryz.ntmps227
 go_wp2_with fail
 go_loopg [6, 10] (s.size + 1) (fun kq v6 v10 w' => ∃ i : Nat, v6 = .bool false ∧ v10 = .int .i64 (i : Int) ∧ i + kq = s.size + 1 ∧ w' = w)
 case atStart => exact ⟨0, rfl, rfl, by omega, rfl⟩
 case round =>
  obtain ⟨i, rfl, rfl, hk, rfl⟩ := hrel
  by_cases hi : i < s.size; rotate_left
  ·
   have hi2 : ¬ (i : Int) < (s.size : Int) := by omega
   go_wp2_with fail
   go_ret
   exact ⟨rfl, rfl⟩
  have hx := HX.out i hi
  have hi2 : (i : Int) < (s.size : Int) := by omega
  have hbd : (((s[i]'hi).toNat : Nat) : Int) < 256 := by have := UInt8.toNat_lt (s[i]'hi); omega
  cases gk with
  | zero => omega
  | succ k1 =>
   have HK := Aside0.mk hk; clear hk
   go_wp2_with fail
   go_roundg k1
   case measure => omega
   case rel => exact ⟨i + 1, rfl, by simp, by have := HK.out; omega, rfl⟩
end Go.Proofs.YtkedidjjhhjdbaaGreatDoor.Pr
end
