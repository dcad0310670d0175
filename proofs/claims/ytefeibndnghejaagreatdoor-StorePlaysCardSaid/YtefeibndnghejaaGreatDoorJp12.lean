import Derived.Test.YtefeibndnghejaaGreatDoorJp11
section
set_option linter.unusedVariables false
set_option linter.unusedSimpArgs false
namespace Go.Proofs.YtefeibndnghejaaGreatDoor.Pr
open Go.RowKit Go.Shelf Go.Proofs.YtefeibndnghejaaGreatDoorW.PrintWords Go.Proofs.YtefeibndnghejaaGreatDoorW.PrintLast Go.Proofs.YtefeibndnghejaaGreatDoorW.PrintMore
attribute [local go_sem] Oper.semAt_some
theorem R_other {α : Type} {d : Kd α} {e : Nat} {W W' : World} {base : Nat} {ok : Nat → Prop} {v : Value} {xs : List α} (h : d.R e W base ok v xs) {row : Option Nat} (hg : W.grownBy W' row) (hr : ∀ r, row = some r → ∃ o : Obj, W.heap[r]? = some o ∧ o.isCells = false) : d.R e W' base ok v xs :=
 Kd.R_mono (Kd.R_grown (Kd.R_bound h) hg (fun k hk e => by
  obtain ⟨_, _, _, q, _, cells, hc⟩ := hk
  obtain ⟨o, ho, hn⟩ := hr k e.symm
  rw [hc] at ho
  cases ho
  cases hn)) (fun k hk => hk.1)
theorem R_put {α : Type} {d : Kd α} {e : Nat} {W : World} {base : Nat} {ok : Nat → Prop} {v : Value} {xs : List α} (h : d.R e W base ok v xs) {l : Nat} {o : Obj} (hl : W.heap[l]? = some o) (ho : o.isCells = false) (o' : Obj) : d.R e (W.putObj l o') base ok v xs :=
 R_other h (grownBy_putObj' W l o') (fun r e => by cases e; exact ⟨o, hl, ho⟩)
theorem keeps_chg {B : Nat} {F : Nat → Prop} {W W' : World} (h : Chg F W W') (hF : ∀ q, F q → ∃ cs t fr, W.heap[q]? = some (.cells cs t fr)) : KeepsFrom B W W' :=
 ⟨h.size, fun k o _ hk ho => (h.block k (Array.getElem?_eq_some_iff.1 hk).1 (fun e => by
  obtain ⟨cs, t, fr, hc⟩ := hF k e
  rw [hc] at hk
  cases hk
  cases ho)).trans hk⟩
def AI (w : World) (g : Nat) (pre : List Rg) (W : World) : Prop := ((∃ v, Boxed W w.heap.size 29 v ∧ kRc.R 36 W w.heap.size (fun q => w.heap.size + 1 < q) v (pre.map Rg.r)) ∧ Boxed W (w.heap.size + 1) 23 (.pointer (some ⟨g, 0, none⟩))) ∧ Below w.heap.size w W
theorem AI_own (w : World) (g : Nat) (B : Nat) (hB : w.heap.size ≤ B) : OwnFrom B (AI w g) :=
 OwnFrom.and (OwnFrom.and (fun pre W W' row ⟨v, hv, hr⟩ hg hrow => ⟨v, hv.kept hg (fun e => by
   obtain ⟨_, o, ho, hn⟩ := hrow _ e.symm
   rw [show W.heap[w.heap.size]? = _ from hv] at ho
   cases ho
   cases hn), R_other hr hg (fun r e => (hrow r e).2)⟩) (Own.from (boxed_own _ 23 (fun _ => .pointer (some ⟨g, 0, none⟩))) _)) (ownFrom_below (Nat.le_refl _) hB)
theorem lit_row {W : World} {base g : Nat} {F : Nat → Prop} {r : Rd} {A : Option Addr} {c : Nat} (hok : r.x.ok) (ha : Kd.R k85 85 W base F (.slice A r.a.length c) r.a) (hb : W.heap[g]? = some (.cells (r.x.cells (.slice A r.a.length c)) 36 (0, 0))) (hg : base ≤ g) :
  kRc.R 36 W base (fun q => q = g ∨ F q ∧ q ≠ g) (.slice (some ⟨g, 0, none⟩) 1 1) [r] := by
 have hs := Rc.size hok (.slice A r.a.length c)
 have hd : kRc.sz = 40 := rfl
 refine ⟨fun k hk => .inl (by injection hk with hk; exact hk.symm), (r.x.cells (.slice A r.a.length c)).toList, ⟨by rw [Array.length_toList, hs]; rfl, .inr ⟨g, 1, _, rfl, hg, hb, Nat.le_refl _, by decide, by rw [hs]; rfl, by rw [List.take_of_length_le]; rw [Array.length_toList, hs]; exact Nat.le_refl _⟩⟩, ?_⟩
 refine ⟨by rw [Array.length_toList, hs]; rfl, fun j p hj => ?_⟩
 have hj0 : j = 0 := by
  have := (List.getElem?_eq_some_iff.1 hj).1
  simpa using this
 subst hj0
 obtain rfl : r = p := by simpa using hj
 refine ⟨hok, _, ?_, Kd.R_mono (Kd.R_bound ha) (fun q hq => ?_)⟩
 ·
  rw [Nat.zero_mul, List.drop_zero, List.take_of_length_le]
  rw [Array.length_toList, hs]
  exact Nat.le_refl _
 ·
  have hne : q ≠ g := fun e => by
   obtain ⟨_, _, _, t, ht, cells, hc⟩ := hq
   subst e
   rw [hb] at hc
   cases hc
   revert ht
   decide
  exact ⟨.inr ⟨hq.1, hne⟩, fun e => hne (Option.some.inj e)⟩
theorem reads_own {w : World} {base : Nat} {ok : Nat → Prop} {A : Option Addr} {n c : Nat} {xs : List Rd} (h : kRc.R 36 w base ok (.slice A n c) xs) : ReadsRow (kRc.M w base ok) 40 w A n xs := by
 have hn := (Kd.R_reads' h).1
 obtain ⟨_, inner, ho, hr⟩ := h
 have hr' : OwnRow (kRc.M w base (fun k => ok k ∧ some k ≠ (Value.slice A n c).ownBlock)) 36 40 w base (.slice A n c) xs := ⟨inner, ho, hr⟩
 obtain ⟨A', c', he, _, hh⟩ := hr'.reads
 injection he with e1 e2 e3
 subst e1; subst e2
 exact hh.imp_ (Below.refl _ _) (fun p cs hp => kRc.M_mono (fun k hk => hk.1) hp)
def law_all.T7 : Bool × List (List Nat × List Nat) := (true, [([], []), ([], []), ([1], [1]), ([2], [2]), ([0, 3, 3], [0, 3]), ([4, 4, 0, 1, 2, 3, 4], [4])])
def law_all.B7 : List Nat := [0, 0, 2, 6, 15, 31]
set_option maxRecDepth 100000 in
theorem law_all.tab7 : rtab .any (opsOf Tryz.f18 7) = law_all.T7 := by kernel_rfl
set_option maxRecDepth 100000 in
theorem law_all.bits7 : waitsOk law_all.T7.2 law_all.B7 = true := by kernel_rfl
structure AB (w : World) (g : Nat) (pre : List Rg) (x : Rg) (lo hi bx : Nat) (v : Value) (W : World) : Prop where
  out : W.heap[w.heap.size]? = some (.cells #[v] 29 (0, 0))
  all : Boxed W (w.heap.size + 1) 23 (.pointer (some ⟨g, 0, none⟩))
  rows : kRc.R 36 W w.heap.size (fun q => w.heap.size + 1 < q ∧ (q < lo ∨ hi ≤ q)) v (pre.map Rg.r)
  box : W.heap[bx]? = some (.cells x.val 36 (0, 0))
  ok : x.r.x.ok
  attrs : Kd.R k85 85 W lo (fun q => lo ≤ q ∧ q < hi) (.slice x.A x.r.a.length x.c) x.r.a
  bel : Below w.heap.size w W
  lt : w.heap.size + 1 < lo
  le : lo ≤ hi
  eq : bx + 1 = hi
  len : pre.length < 1048576
theorem func_not_nil (b : Addr) (W : World) : (binOp .eql 62 (.func (.func 60) #[] #[.pointer (some b)]) .nilFunc).run Tryz.prog W = .ok (.bool false) W := by kernel_rfl
theorem AB.kept {w : World} {g : Nat} {pre : List Rg} {x : Rg} {lo hi bx : Nat} {v : Value} {W W' : World} (h : AB w g pre x lo hi bx v W) (hb : Below W.heap.size W W') : AB w g pre x lo hi bx v W' :=
 ⟨blk_below h.out hb, boxed_below h.all hb, Kd.R_below h.rows hb, blk_below h.box hb, h.ok, Kd.R_below h.attrs hb, h.bel.trans (hb.mono h.bel.size), h.lt, h.le, h.eq, h.len⟩
set_option maxRecDepth 100000 in
set_option maxHeartbeats 8000000 in
theorem all_walk (g : Nat) (most ver : Int) (l m1 m2 : Value) (R : List Rd) (base : Nat) (ok : Nat → Prop) (w : World) (hblk : w.heap[g]? = some (.cells (stC most l m1 m2 ver) 81 (0, 0))) (hrec : kRc.R 36 w base ok l R) (hfi : ∀ r ∈ R, r.fine) (hR : R.length < 1048576) :
  Calls Tryz.prog 18 #[.pointer (some ⟨g, 0, none⟩)] w fun e w' => ∃ v, e = .returned (.tuple #[v, .bool true]) ∧ kRc.R 36 w' w.heap.size (fun _ => True) v R ∧ Below w.heap.size w w' := by
 have hla : ∀ r ∈ R, r.a.length < 4398046511104 := fun r hr => by have := (hfi r hr).al; omega
 have HBLK := Aside0.mk hblk
 have HREC := Aside0.mk hrec
 have HLA := Aside0.mk hla
 have HFI := Aside0.mk hfi
 have HRL := Aside0.mk hR
 have hu36 := Tryz.underlying36
 clear hblk hrec hla hR hfi
 have hfn := func_not_nil
 refine (callsIn_wide (n := 5)).1 ?_
 refine callsIn_of_wp_marks Tryz.func18 rfl trivial ?_ rfl
 simp only [Tryz.ntmps18, List.size_toArray, List.length_cons, List.length_nil, Nat.reduceAdd, Nat.reduceSub, Array.replicate_succ, Array.replicate_zero, List.push_toArray, List.append_toArray, List.nil_append, List.cons_append]
 gi_wp2_with (refine ⟨trivial, ?_⟩; gi_at_call 31; refine (all_in Fence.wide _ trivial rfl _ _).mono ?_; rintro e w' ⟨rfl, rfl⟩)
 have bO := Boxed.new w 29 (.slice none 0 0)
 have bG := Boxed.new (w.alloc (.cells #[.slice none 0 0] 29)) 23 (.pointer (some ⟨g, 0, none⟩))
 simp only [World.size_alloc] at bG
 have hB0 : Below w.heap.size w ((w.alloc (.cells #[.slice none 0 0] 29)).alloc (.cells #[.pointer (some ⟨g, 0, none⟩)] 23)) := below_alloc (below_alloc (Below.refl _ _) _) _
 refine range_gives (F := Fence.wide) rfl (by omega) (gf := 60) (lb := #[.pointer (some ⟨w.heap.size + 1, 0, none⟩)]) rfl trivial (enters_of Tryz.func60 (by kernel_rfl) rfl)
  (all1_gives _ (by omega) (w.heap.size + 1) g most ver l m1 m2 R base ok w _ HBLK.out HREC.out HLA.out hB0 bG.cell) belowK_t (belowK_b (by simp; omega)) (Below.refl _ _) (fun _ => rfl)
  (AI w g) (fun _ _ _ => False) (AI_own w g _ (by simp; omega)) (fun _ _ _ _ _ hs _ _ => hs) ⟨⟨⟨_, bO.alloc _, Kd.R_nil _ _ _ _ _⟩, bG⟩, hB0⟩ ?round ?done ?stop
 case stop =>
  rintro D c pre W _ _ h _
  exact h.elim
 case round =>
  rintro lr pre x W0 W hl1 hl0 ⟨rr, hl2⟩ ⟨⟨⟨v, hv, hr⟩, hall⟩, hbel⟩ hbW ⟨hmem, hok, hpa⟩ hlen
  have hs : x.val.size = 40 := Rc.size hok _
  have h1c : x.val.all (·.oneCell') = true := Rc.ones x.r.x rfl
  have hal : x.r.a.length < 4398046511104 := by have := (HFI.out _ hmem).al; omega
  simp only [World.size_alloc] at hl1
  have hlt : w.heap.size + 1 < W0.heap.size := by omega
  have hbx := recBox W x.val
  have hb1 : Below W.heap.size W ((W.alloc (.cells z36 36)).setRow W.heap.size x.val) := hbx.2
  have hAB : AB w g pre x W0.heap.size (W.heap.size + 1) W.heap.size v ((W.alloc (.cells z36 36)).setRow W.heap.size x.val) := by
   refine ⟨boxed_below (boxed_below hv hbW) hb1, boxed_below (boxed_below hall hbW) hb1, Kd.R_below (Kd.R_below (Kd.R_mono (Kd.R_bound hr) (fun q hq => ⟨hq.1, .inl hq.2.2.1⟩)) hbW) hb1, hbx.1, hok, Kd.R_below (Kd.R_mono (Kd.R_bound hpa) (fun q hq => ⟨hq.1, Nat.lt_succ_of_lt hq.2.2.1⟩)) hb1, (hbel.trans (hbW.mono hbel.size)).trans (hb1.mono (by have := hbel.size; have := hbW.size; omega)), hlt, Nat.le_succ_of_le hbW.size, rfl, by have := HRL.out; omega⟩
  unfold RoundGoes
  generalize (((w.alloc (.cells #[.slice none 0 0] 29)).alloc (.cells #[.pointer (some ⟨g, 0, none⟩)] 23)).heap.size) = B
  rw [zip_one]
  simp only [List.setIfInBounds_toArray, List.set_cons_succ, List.set_cons_zero]
  refine assign_box (cs := x.val) lr (fun _ _ h => h) rfl rfl rfl rfl rfl rfl hs h1c rfl rfl ?_
  have hl3 : ((W.alloc (.cells z36 36)).setRow W.heap.size x.val).heap[lr]? = some (.loop rr) := (hb1.block lr (Array.getElem?_eq_some_iff.1 hl2).1).trans hl2
  have HL := Aside0.mk (And.intro hl1 (And.intro hl0 (And.intro hl3 hbW.size)))
  generalize hW1 : (W.alloc (.cells z36 36)).setRow W.heap.size x.val = W1 at hb1 hAB HL ⊢
  refine ⟨keeps_of_below hb1, hb1.mono (by have := hbel.size; have := hbW.size; omega), fun r => ?_⟩
  have hAB2 : AB w g pre x W0.heap.size (W.heap.size + 1) W.heap.size v (W1.putObj lr (.loop r)) :=
   ⟨blk_put hAB.out (by omega), blk_put hAB.all (by omega), R_put hAB.rows HL.out.2.2.1 rfl _, blk_put hAB.box (by have := hbW.size; omega), hAB.ok, R_put hAB.attrs HL.out.2.2.1 rfl _, hAB.bel.trans ((Below.refl _ W1).grown (grownBy_putObj' W1 lr _) hAB.bel.size (fun k e => by cases e; omega)), hAB.lt, hAB.le, hAB.eq, hAB.len⟩
  generalize W1.putObj lr (.loop r) = W2 at hAB2 ⊢
  have hlb := hbW.size
  generalize W0.heap.size = lo at hAB2 hlb
  generalize hbxe : W.heap.size = bx at hAB2 hlb ⊢
  have HAB := Aside0.mk hAB2
  have HAL := Aside0.mk hal
  have HLB := Aside0.mk hlb
  have HH := Aside0.mk (And.intro hs h1c)
  clear hlb hbel hAB hAB2 hal HL hl1 hl0 hl2 hl3 hb1 hbx hpa hbW hv hr hall hlt hW1 hbxe hok hlen h1c
  simp only [Act.put, List.setIfInBounds_toArray, List.set_cons_succ, List.set_cons_zero]
  gi_wp2
  have hbxlt : bx < W2.heap.size := (Array.getElem?_eq_some_iff.1 HAB.out.box).1
  have HBX := Aside0.mk hbxlt
  clear hbxlt
  refine startR_ (some lr) (fun _ _ h => h) (by kernel_rfl) (n := 6) (S := fun w' => w'.heap[w.heap.size]? = some (.cells #[v] 29 (0, 0)) ∧ w'.heap[bx]? = some (.cells x.val 36 (0, 0))) (ds := [5]) #[false, false, false, false, false, false] (by kernel_rfl) rfl rfl ⟨HAB.out.out, HAB.out.box⟩ (fun hHeld => ?_)
  refine with_tabW law_all.tab7 law_all.bits7 (fun HT_ HW_ => ?_)
  have HAB0 := Aside0.mk (HAB.out.kept (below_drew1 (Below.refl W2.heap.size W2)))
  have HBD := Aside0.mk (below_drew1 (Below.refl W2.heap.size W2))
  generalize W2.drew = W3 at hHeld HAB0 HBD ⊢
  refine take_ (i := 0) (N := some 13) (v := ?_) (a' := ?_) #[true, false, false, false, false, false] rfl rfl (take_ofW HT_.out HW_.out (by kernel_rfl)) (fun _ _ _ h => h) (Or.inl ⟨by rfl, ?_⟩) hHeld ?_ ?_
  rotate_left
  ·
   rintro w' ⟨yo, yb⟩
   have y := (blk_cell yo 0).trans (show _ = some v from rfl)
   go_simp
   with_reducible rfl
  rotate_left
  ·
   simp only [Act.put, List.setIfInBounds_toArray, List.set_cons_zero, List.set_cons_succ, i64_w, i32_w]
   rfl
  refine take_ (i := 1) (N := some 14) (v := ?_) (a' := ?_) #[true, true, false, false, false, false] rfl rfl (take_ofW HT_.out HW_.out (by kernel_rfl)) (fun _ _ _ h => h) (Or.inl ⟨by rfl, ?_⟩) hHeld ?_ ?_
  rotate_left
  ·
   rintro w' ⟨yo, yb⟩
   refine exec_load36 (x := .tmp 6) ?_ ?_ yb hs
   ·
    rfl
   ·
    rfl
  rotate_left
  ·
   simp only [Act.put, List.setIfInBounds_toArray, List.set_cons_zero, List.set_cons_succ, i64_w, i32_w]
   rfl
  refine one_ (i := 2) (N := some 15) #[true, true, true, false, false, false] rfl rfl (one_of HT_.out (by kernel_rfl)) (by decide) (fun K hK => ?_)
  refine value_ (w1 := W3.alloc (.cells x.val 36)) (v := (.slice (some ⟨W3.heap.size, 0, none⟩) 1 1)) (by rfl) rfl (exec_buildRec (x := .tmp 14) (cs := x.val) (by rfl) (by rfl) hs) ?_
  refine hK.out _ _ ⟨blk_alloc hHeld.1 _, blk_alloc hHeld.2 _⟩ (fun hHeld => ?_)
  clear hK K
  refine norm_ (a' := ?_) ?_ ?_
  rotate_left
  ·
   show Act.put _ (some 15) _ = _
   simp only [Act.put, List.setIfInBounds_toArray, List.set_cons_zero, List.set_cons_succ, i64_w, i32_w]
   rfl
  obtain ⟨A0, c0, e0, hc0, hC0⟩ := Kd.R_reads HAB0.out.attrs
  injection e0 with e01 e02 e03
  subst e01; subst e03
  refine one_ (i := 3) (N := some 16) #[true, true, true, true, false, false] rfl rfl (one_of HT_.out (by kernel_rfl)) (by decide) (fun K hK => ?_)
  refine goes_ Tryz.func48 (by kernel_rfl) rfl #[.slice (some ⟨W3.heap.size, 0, none⟩) 1 1] (by rfl) rfl rfl (by (try simp only [List.map_toArray, List.map_cons, List.map_nil]); first | done | rfl) ?_
  refine (lent1_walk W3.heap.size x.r.x HAB0.out.ok x.A x.c x.r.a (W3.alloc (.cells x.val 36)) (blk_new _ _) (Kd.C_below hC0 (below_alloc (Below.refl _ _) _)) hc0 HAL.out).mono ?_
  rintro e w2 ⟨v4, rfl, hR4, hd4⟩
  have hb34 : Below W3.heap.size W3 w2 := (below_alloc (Below.refl _ _) _).trans (hd4.mono (by simp))
  have HB4 := Aside0.mk hb34
  have HR4 := Aside0.mk hR4
  have HAB4 := Aside0.mk (HAB0.out.kept hb34)
  clear hb34
  refine ⟨_, rfl, ?_⟩
  refine hK.out _ _ ⟨blk_below hHeld.1 hd4, blk_below hHeld.2 hd4⟩ (fun hHeld => ?_)
  clear hK K hR4 hd4 hC0 hc0
  refine norm_ (a' := ?_) ?_ ?_
  rotate_left
  ·
   show Act.put _ (some 16) _ = _
   simp only [Act.put, List.setIfInBounds_toArray, List.set_cons_zero, List.set_cons_succ, i64_w, i32_w]
   rfl
  obtain ⟨A4, c4, rfl⟩ := Kd.R_slice HR4.out
  refine one_ (i := 4) (N := some 17) #[true, true, true, true, true, false] rfl rfl (one_of HT_.out (by kernel_rfl)) (by decide) (fun K hK => ?_)
  refine Kd.R_append_rows_step kRc (Rr := kRc.M w2 (W3.alloc (.cells x.val 36)).heap.size (fun _ => True)) (w0 := W2) w.heap.size (by rfl) (.tmp 13) (.tmp 16) 29 36 (.agg z36) 128 rfl Tryz.underlying29 info36 rfl (by decide) (by omega) v (pre.map Rg.r) [x.r] A4 1 c4 (fun q => w.heap.size + 1 < q ∧ (q < lo ∨ bx + 1 ≤ q)) (fun q => W3.heap.size ≤ q) rfl (by rfl) HAB4.out.rows (reads_own HR4.out) (fun y cs hy => kRc.M_mono (fun q hq => by have := hq.2.1; rw [World.size_alloc] at this; omega) (kRc.M_lower (base' := w.heap.size) (by have := HAB0.out.bel.size; rw [World.size_alloc]; omega) (kRc.M_bound hy))) (fun q hq => ?_) (fun q hq => ?_) ?_ HAB4.out.bel.size ?_ ?_
  ·
   have h1 := HAB0.out.lt; have h2 := HAB0.out.le; have h3 := HBX.out; have h4 := HAB0.out.eq; have h5 := HBD.out.size
   exact ⟨⟨by omega, .inr (by omega)⟩, fun e => by have := Kd.R_lt HAB0.out.rows q e.symm; omega⟩
  ·
   have h1 := HAB0.out.lt; have h2 := HAB0.out.le; have h3 := HBX.out; have h4 := HAB0.out.eq; have h5 := HBD.out.size; have h6 := HB4.out.size
   exact ⟨by omega, .inr (by omega)⟩
  ·
   exact (HBD.out.trans (HB4.out.mono HBD.out.size)).mono HAB.out.bel.size
  ·
   have := HAB0.out.len; rw [List.length_map]; omega
  intro v1 w5 hR5 hb5 hg5 hat5
  have hne1 : some w.heap.size ≠ v.ownBlock := fun e => by have := (HAB4.out.rows.1 _ e.symm).1; omega
  have hne2 : some bx ≠ v.ownBlock := fun e => by have h2 := (HAB4.out.rows.1 _ e.symm).2; have h3 := HAB4.out.le; have h4 := HAB4.out.eq; have h5 := HLB.out; omega
  have hH5 : w5.heap[w.heap.size]? = some (.cells #[v] 29 (0, 0)) ∧ w5.heap[bx]? = some (.cells x.val 36 (0, 0)) := ⟨(hg5.block _ (blk_lt HAB4.out.out) hne1).trans HAB4.out.out, (hg5.block _ (blk_lt HAB4.out.box) hne2).trans HAB4.out.box⟩
  have HR5 := Aside0.mk hR5
  have HB5 := Aside0.mk hb5
  have HG5 := Aside0.mk hg5
  have HH5 := Aside0.mk hH5
  clear hR5 hb5 hg5 hat5 hne1 hne2
  obtain ⟨A5, c5, hv5⟩ := Kd.R_slice HR5.out
  rw [List.length_append, List.length_map, List.length_singleton] at hv5
  subst hv5
  refine hK.out _ _ hH5 (fun hHeld => ?_)
  clear hK K hH5
  refine norm_ (a' := ?_) ?_ ?_
  rotate_left
  ·
   show Act.put _ (some 17) _ = _
   simp only [Act.put, List.setIfInBounds_toArray, List.set_cons_zero, List.set_cons_succ, i64_w, i32_w]
   rfl
  refine last_ (i := 5) (N := none) #[true, true, true, true, true, true] rfl rfl (one_of HT_.out (by kernel_rfl)) (by decide) (fun K hK => ?_)
  have hs11 := (blk_cell HH5.out.1 0).trans (show _ = some v from rfl)
  have hf11 := blk_frozen HH5.out.1 0
  refine skip_ (w1 := ?_) (by rfl) rfl ?_ ?_
  rotate_left
  ·
   go_simp
   rfl
  refine hK.out _ _ ?_
  clear hK K
  refine done_ (done_of HT_.out (by kernel_rfl)) ?_
  have HV : Aside0 (∃ W6, W6 = w5.setCell ⟨w.heap.size, 0, none⟩ (.slice A5 (pre.length + 1) c5)) := ⟨_, rfl⟩
  obtain ⟨W6, hW6⟩ := HV.out
  rw [← hW6]
  have hob6 : W6.heap[w.heap.size]? = some (.cells #[.slice A5 (pre.length + 1) c5] 29 (0, 0)) := hW6 ▸ blk_set HH5.out.1 0 _
  have hbx6 : W6.heap[bx]? = some (.cells x.val 36 (0, 0)) := hW6 ▸ blk_far HH5.out.2 (p := ⟨w.heap.size, 0, none⟩) (by have h3 := HAB4.out.lt; have h4 := HLB.out; show bx ≠ w.heap.size; omega) _
  have hR6 : kRc.R 36 W6 w.heap.size (fun q => w.heap.size + 1 < q ∧ (q < lo ∨ bx + 1 ≤ q)) (.slice A5 (pre.length + 1) c5) (pre.map Rg.r ++ [x.r]) := hW6 ▸ Kd.R_set HR5.out HH5.out.1 (by decide) 0 _
  have hal6 : Boxed W6 (w.heap.size + 1) 23 (.pointer (some ⟨g, 0, none⟩)) := by
   refine hW6 ▸ Boxed.other ?_ (by omega) _
   exact (HG5.out.block _ HAB4.out.all.lt (fun e => by have := (HAB4.out.rows.1 _ e.symm).1; omega)).trans HAB4.out.all
  have hat6 : Kd.R k85 85 W6 lo (fun q => lo ≤ q ∧ q < bx + 1) (.slice x.A x.r.a.length x.c) x.r.a := by
   have q1 : Kd.R k85 85 w2 lo (fun q => (lo ≤ q ∧ q < bx + 1) ∧ some q ≠ v.ownBlock) (.slice x.A x.r.a.length x.c) x.r.a := Kd.R_mono HAB4.out.attrs (fun q hq => ⟨hq, fun e => by have h2 := (HAB4.out.rows.1 _ e.symm).2; omega⟩)
   have q2 := Kd.R_grown q1 HG5.out (fun k hk => hk.2)
   have q3 := Kd.R_far q2 (p := ⟨w.heap.size, 0, none⟩) (fun k hk => by have h1 := HAB4.out.lt; have h2 := hk.1.1; show k ≠ w.heap.size; omega) (.slice A5 (pre.length + 1) c5)
   exact hW6 ▸ Kd.R_mono q3 (fun q hq => hq.1)
  have hb26 : Below w.heap.size W2 W6 := hW6 ▸ HB5.out.setCell (Nat.le_refl _) _
  have hk26 : KeepsFrom B W2 W6 := by
   refine ((keeps_of_below (HBD.out.trans (HB4.out.mono HBD.out.size))).trans (keeps_chg (Chg.grown (F := fun q => v.ownBlock = some q) HG5.out (fun q e => e)) (fun q hq => ?_))).trans (hW6 ▸ (KeepsOthers.setCell _ _ _).from _)
   obtain ⟨cells, hcl⟩ := Kd.R_typed HAB4.out.rows q hq
   exact ⟨cells, 36, (0, 0), hcl⟩
  have H6 := Aside0.mk (And.intro hob6 (And.intro hbx6 (And.intro hR6 (And.intro hal6 (And.intro hat6 (And.intro hb26 hk26))))))
  clear hob6 hbx6 hR6 hal6 hat6 hb26 hk26 hW6 hHeld HV
  simp only [Exit.then]
  gi_wp2_with (refine listIn_load_row (some lr) _ rfl 36 (.tmp 6) rfl bx rfl 36 x.val (0, 0) _ H6.out.2.1 hu36 rfl (by rw [hs]; kernel_rfl) (Aside0.out ?_))
  refine ⟨?_⟩
  refine list_round (some lr) _ (fun _ _ h => h) _ _ _ (noDef_spec (ops := #[_, _]) (by kernel_rfl)) ?_
  refine wpList_buildRec 18 rfl rfl (some 19) rfl hs rfl ?_
  have hlit := Kd.R_bound (lit_row (g := W6.heap.size) HAB.out.ok (Kd.R_below H6.out.2.2.2.2.1 (below_alloc (Below.refl _ _) (.cells x.val 36))) (blk_new W6 _) (by have h1 := HAB4.out.lt; have h2 := HAB4.out.le; have h3 := H6.out.2.2.2.2.2.1.size; have h4 := HBX.out; omega))
  have HLIT := Aside0.mk hlit
  clear hlit
  go_wp2_with fail
  refine (spoil_walk lo _ _ [x.r] (W6.alloc (.cells x.val 36)) HLIT.out).mono ?_
  rintro e w7 ⟨rfl, hch7⟩
  have HCH7 := Aside0.mk hch7
  clear hch7
  go_wp2_with fail
  have hlt1 := HAB4.out.lt
  have hsz6 := H6.out.2.2.2.2.2.1.size
  have hbx2 := HBX.out
  have hbl := HLB.out
  have hba : Below W6.heap.size W6 (W6.alloc (.cells x.val 36)) := below_alloc (Below.refl _ _) _
  have hbel7 : Below w.heap.size W2 w7 := (H6.out.2.2.2.2.2.1.trans (hba.mono (by omega))).trans (HCH7.out.below (fun q hq => by have := hq.2.1; omega) (by have := hba.size; omega))
  have far : ∀ q, q < W6.heap.size → (q < lo ∨ bx + 1 ≤ q) → w7.heap[q]? = W6.heap[q]? := fun q hq hn =>
   (HCH7.out.block q (Nat.lt_of_lt_of_le hq hba.size) (fun e => e.1.elim (fun e => by omega) (fun e => by omega))).trans (hba.block q hq)
  refine ⟨(H6.out.2.2.2.2.2.2.trans (keeps_of_below hba)).trans (keeps_chg HCH7.out (fun q hq => ?_)), hbel7, ⟨⟨⟨_, (far _ (blk_lt H6.out.1) (.inl (by omega))).trans H6.out.1, ?_⟩, (far _ H6.out.2.2.2.1.lt (.inl hlt1)).trans H6.out.2.2.2.1⟩, HAB.out.bel.trans hbel7⟩⟩
  ·
   obtain ⟨_, _, _, t, _, cells, hcl⟩ := hq
   exact ⟨cells, t, (0, 0), hcl⟩
  ·
   rw [List.map_append]
   exact Kd.R_mono (Kd.R_step H6.out.2.2.1 (fun q hq hql => far q hql hq.2)) (fun q hq => hq.1)
 case done =>
  rintro D zs W hD hzs ⟨⟨⟨v, hv, hr⟩, hall⟩, hbel⟩ hK
  rw [hzs] at hr
  simp only [World.size_alloc] at hD
  have HV := Aside0.mk (And.intro hv (And.intro hr (And.intro hall (And.intro hbel hK))))
  clear hv hr hall hbel hK hzs
  have fin : ∀ (D2 : Nat) (W2 : World) (tm : Array Value), W.heap.size ≤ D2 → Below W.heap.size W W2 → W2.heap[D2]? = some (.deferred (some [])) → tm.getD 2 undef = v → tm.getD 3 undef = .bool true →
    bodyPostM Fence.wide 5 Tryz.prog Tryz.f18 (fun e w' => ∃ v, e = .returned (.tuple #[v, .bool true]) ∧ kRc.R 36 w' w.heap.size (fun _ => True) v R ∧ Below w.heap.size w w') .ret { tmps := tm, defers := [{ target := .collected D2, args := #[] }, { target := .collected D, args := #[] }] } W2 := by
   intro D2 W2 tm hD2 hb2 h2 ht2 ht3
   have hDl : D < W.heap.size := (Array.getElem?_eq_some_iff.1 HV.out.2.2.2.2).1
   have e1 : W2.heap[D]? = some (.deferred (some [])) := (hb2.block D hDl).trans HV.out.2.2.2.2
   have e3 : (W2.putObj D2 (.deferred none)).heap[D]? = some (.deferred (some [])) := (World.putObj_heap_other (by omega)).trans e1
   have hb := HV.out.2.2.2.1.trans (hb2.mono HV.out.2.2.2.1.size)
   have hs := HV.out.2.2.2.1.size
   have hb4 := hb.trans (belowK_b (w := w) (Nat.le_refl _) _ D2 _ (.deferred none) (by omega) h2 rfl rfl)
   have hb5 := hb4.trans (belowK_b (w := w) (Nat.le_refl _) _ D _ (.deferred none) (by omega) e3 rfl rfl)
   refine ⟨by simp, .inl ⟨_, _, rfl, run_takeDeferred h2, by simp, .inl ⟨_, _, rfl, run_takeDeferred e3, ?_⟩⟩⟩
   have hRe := R_put (R_put (Kd.R_below HV.out.2.1 hb2) h2 rfl (.deferred none)) e3 rfl (.deferred none)
   refine ⟨_, results_tmp2 rfl _ _ _, ⟨v, ?_, Kd.R_mono hRe (fun _ _ => trivial), hb5⟩⟩
   rw [ht2, ht3]
  have c4 := HV.out.1.cell
  have FIN := Aside0.mk fin
  clear fin
  gi_wp2
  refine range_gives (F := Fence.wide) rfl (by omega) (gf := 60) (lb := #[.pointer (some ⟨w.heap.size + 1, 0, none⟩)]) rfl trivial (enters_of Tryz.func60 (by kernel_rfl) rfl)
   (all1_gives _ (by omega) (w.heap.size + 1) g most ver l m1 m2 R base ok w _ HBLK.out HREC.out HLA.out HV.out.2.2.2.1 HV.out.2.2.1.cell) belowK_t (belowK_b HV.out.2.2.2.1.size) (Below.refl _ _) (fun _ => rfl)
   (fun pre W' => pre = [] ∧ Below W.heap.size W W') (fun c _ W' => c = .exit 2 ∧ Below W.heap.size W W')
   (OwnFrom.and (ownFrom_pure _ _) (ownFrom_below (Nat.le_refl _) (Nat.le_refl _)))
   (fun c => OwnFrom.and (ownFrom_pure _ (fun _ => c = .exit 2)) (ownFrom_below (Nat.le_refl _) (Nat.le_refl _))) ⟨rfl, Below.refl _ _⟩ ?round ?done ?stop
  case round =>
   rintro lr pre x W0 W1 hl1 hl0 ⟨rr, hl2⟩ ⟨rfl, hb2⟩ hbW _ hlen
   refine wpIn_skip ⟨KeepsFrom.refl _ _, Below.refl _ _, fun r => ?_⟩
   have hb3 : Below W.heap.size W (W1.putObj lr (.loop r)) := (hb2.trans (hbW.mono hb2.size)).trans ((Below.refl _ W1).grown (grownBy_putObj' W1 lr _) (by have := hb2.size; have := hbW.size; omega) (fun k e => by cases e; omega))
   gi_wp2
   exact ⟨KeepsFrom.refl _ _, rfl, hb3⟩
  case done =>
   rintro D2 xs W2 hD2 - ⟨-, hB2⟩ hK2
   have c5 := (boxed_below HV.out.1 hB2).cell
   have HB2 := Aside0.mk (And.intro hD2 (And.intro hB2 hK2))
   clear hD2 hB2 hK2
   gi_wp2
   exact FIN.out D2 W2 _ HB2.out.1 HB2.out.2.1 HB2.out.2.2 rfl rfl
  case stop =>
   rintro D2 c' pre W2 hD2 - ⟨rfl, hB2⟩ hK2
   have c5 := (boxed_below HV.out.1 hB2).cell
   have HB2 := Aside0.mk (And.intro hD2 (And.intro hB2 hK2))
   clear hD2 hB2 hK2
   gi_wp2
   exact FIN.out D2 W2 _ HB2.out.1 HB2.out.2.1 HB2.out.2.2 rfl rfl
end Go.Proofs.YtefeibndnghejaaGreatDoor.Pr
end
section
set_option linter.unusedVariables false
set_option linter.unusedSimpArgs false
namespace Go.Proofs.YtefeibndnghejaaGreatDoor.Pr
open Go.RowKit Go.Shelf Go.Proofs.YtefeibndnghejaaGreatDoorW.PrintWords Go.Proofs.YtefeibndnghejaaGreatDoorW.PrintLast Go.Proofs.YtefeibndnghejaaGreatDoorW.PrintMore
attribute [local go_sem] Oper.semAt_some
def SI (w : World) (fv : Value) (p : Rd → Bool) (pre : List Rg) (W : World) : Prop := ((∃ v, Boxed W (w.heap.size + 1) 29 v ∧ kRc.R 36 W w.heap.size (fun q => w.heap.size + 2 < q) v ((pre.map Rg.r).filter p)) ∧ Boxed W w.heap.size 72 fv) ∧ Below w.heap.size w W
theorem SI_own (w : World) (fv : Value) (p : Rd → Bool) (B : Nat) (hB : w.heap.size ≤ B) : OwnFrom B (SI w fv p) :=
 OwnFrom.and (OwnFrom.and (fun pre W W' row ⟨v, hv, hr⟩ hg hrow => ⟨v, hv.kept hg (fun e => by
   obtain ⟨_, o, ho, hn⟩ := hrow _ e.symm
   rw [show W.heap[w.heap.size + 1]? = _ from hv] at ho
   cases ho
   cases hn), R_other hr hg (fun r e => (hrow r e).2)⟩) (Own.from (boxed_own _ 72 (fun _ => fv)) _)) (ownFrom_below (Nat.le_refl _) hB)
structure SB (w : World) (fv : Value) (p : Rd → Bool) (pre : List Rg) (x : Rg) (lo hi bx : Nat) (v : Value) (W : World) : Prop where
  fb : Boxed W w.heap.size 72 fv
  out : W.heap[w.heap.size + 1]? = some (.cells #[v] 29 (0, 0))
  rows : kRc.R 36 W w.heap.size (fun q => w.heap.size + 2 < q ∧ (q < lo ∨ hi ≤ q)) v ((pre.map Rg.r).filter p)
  box : W.heap[bx]? = some (.cells x.val 36 (0, 0))
  ok : x.r.x.ok
  attrs : Kd.R k85 85 W lo (fun q => lo ≤ q ∧ q < hi) (.slice x.A x.r.a.length x.c) x.r.a
  bel : Below w.heap.size w W
  lt : w.heap.size + 2 < lo
  le : lo ≤ hi
  eq : bx + 1 = hi
  len : pre.length < 1048576
theorem SB.kept {w : World} {fv : Value} {p : Rd → Bool} {pre : List Rg} {x : Rg} {lo hi bx : Nat} {v : Value} {W W' : World} (h : SB w fv p pre x lo hi bx v W) (hb : Below W.heap.size W W') : SB w fv p pre x lo hi bx v W' :=
 ⟨boxed_below h.fb hb, blk_below h.out hb, Kd.R_below h.rows hb, blk_below h.box hb, h.ok, Kd.R_below h.attrs hb, h.bel.trans (hb.mono h.bel.size), h.lt, h.le, h.eq, h.len⟩
set_option maxRecDepth 100000 in
set_option maxHeartbeats 8000000 in
theorem some_walk (fi : FuncId) (caps : Array Value) (p : Rd → Bool) (srt : List Rd → List Rd) (g : Nat) (most ver : Int) (l m1 m2 : Value) (R : List Rd) (base : Nat) (ok : Nat → Prop) (w : World) (hblk : w.heap[g]? = some (.cells (stC most l m1 m2 ver) 81 (0, 0))) (hrec : kRc.R 36 w base ok l R) (hfi : ∀ r ∈ R, r.fine) (hR : R.length < 1048576)
  (eg : ∀ args w, (callFunc fi args).run Tryz.prog w = .ok (.enter fi args) w)
  (hwant : ∀ (x : Rg) (W : World), Below w.heap.size w W → x.r ∈ R → x.r.x.ok → Kd.C k85 W x.A x.r.a.length x.r.a → x.r.a.length ≤ x.c → Calls Tryz.prog fi (#[.agg x.val] ++ caps) W fun e w' => e = .returned (.bool (p x.r)) ∧ Below W.heap.size W w')
  (hsort : ∀ (v : Value) (W : World) (ok' : Nat → Prop), w.heap.size ≤ W.heap.size → kRc.R 36 W w.heap.size ok' v (R.filter p) → Calls Tryz.prog 67 #[v, .func (.func 68) #[] #[]] W fun e w' => e = .returned (.tuple #[]) ∧ kRc.R 36 w' w.heap.size ok' v (srt (R.filter p)) ∧ Chg ok' W w') :
  Calls Tryz.prog 36 #[.pointer (some ⟨g, 0, none⟩), .func (.func fi) #[] caps] w fun e w' => ∃ v, e = .returned v ∧ kRc.R 36 w' w.heap.size (fun _ => True) v (srt (R.filter p)) ∧ Below w.heap.size w w' := by
 have hla : ∀ r ∈ R, r.a.length < 4398046511104 := fun r hr => by have := (hfi r hr).al; omega
 have HBLK := Aside0.mk hblk
 have HREC := Aside0.mk hrec
 have HLA := Aside0.mk hla
 have HFI := Aside0.mk hfi
 have HRL := Aside0.mk hR
 have HWT := Aside0.mk hwant
 have HSO := Aside0.mk hsort
 have hu36 := Tryz.underlying36
 clear hblk hrec hla hR hfi hwant hsort
 refine (callsIn_wide (n := 5)).1 ?_
 refine callsIn_of_wp_marks Tryz.func36 rfl trivial ?_ rfl
 simp only [Tryz.ntmps36, List.size_toArray, List.length_cons, List.length_nil, Nat.reduceAdd, Nat.reduceSub, Array.replicate_succ, Array.replicate_zero, List.push_toArray, List.append_toArray, List.nil_append, List.cons_append]
 gi_wp2_with (refine ⟨trivial, ?_⟩; gi_at_call 31; refine (all_in Fence.wide _ trivial rfl _ _).mono ?_; rintro e w' ⟨rfl, rfl⟩)
 have bF := Boxed.new w 72 (.func (.func fi) #[] caps)
 have bO := Boxed.new (w.alloc (.cells #[.func (.func fi) #[] caps] 72)) 29 (.slice none 0 0)
 have bG := Boxed.new ((w.alloc (.cells #[.func (.func fi) #[] caps] 72)).alloc (.cells #[.slice none 0 0] 29)) 23 (.pointer (some ⟨g, 0, none⟩))
 simp only [World.size_alloc] at bG bO
 have hB0 : Below w.heap.size w (((w.alloc (.cells #[.func (.func fi) #[] caps] 72)).alloc (.cells #[.slice none 0 0] 29)).alloc (.cells #[.pointer (some ⟨g, 0, none⟩)] 23)) := below_alloc (below_alloc (below_alloc (Below.refl _ _) _) _) _
 refine range_gives (F := Fence.wide) rfl (by omega) (gf := 60) (lb := #[.pointer (some ⟨w.heap.size + 1 + 1, 0, none⟩)]) rfl trivial (enters_of Tryz.func60 (by kernel_rfl) rfl)
  (all1_gives _ (by omega) (w.heap.size + 1 + 1) g most ver l m1 m2 R base ok w _ HBLK.out HREC.out HLA.out hB0 bG.cell) belowK_t (belowK_b (by simp; omega)) (Below.refl _ _) (fun _ => rfl)
  (SI w (.func (.func fi) #[] caps) p) (fun _ _ _ => False) (SI_own w _ p _ (by simp; omega)) (fun _ _ _ _ _ hs _ _ => hs) ⟨⟨⟨_, bO.alloc _, Kd.R_nil _ _ _ _ _⟩, (bF.alloc _).alloc _⟩, hB0⟩ ?round ?done ?stop
 case stop =>
  rintro D c pre W _ _ h _
  exact h.elim
 case round =>
  rintro lr pre x W0 W hl1 hl0 ⟨rr, hl2⟩ ⟨⟨⟨v, hv, hr⟩, hfb⟩, hbel⟩ hbW ⟨hmem, hok, hpa⟩ hlen
  have hs : x.val.size = 40 := Rc.size hok _
  have h1c : x.val.all (·.oneCell') = true := Rc.ones x.r.x rfl
  simp only [World.size_alloc] at hl1
  have hlt : w.heap.size + 2 < W0.heap.size := by omega
  have hbx := recBox W x.val
  have hb1 : Below W.heap.size W ((W.alloc (.cells z36 36)).setRow W.heap.size x.val) := hbx.2
  have hAB : SB w (.func (.func fi) #[] caps) p pre x W0.heap.size (W.heap.size + 1) W.heap.size v ((W.alloc (.cells z36 36)).setRow W.heap.size x.val) := by
   refine ⟨boxed_below (boxed_below hfb hbW) hb1, boxed_below (boxed_below hv hbW) hb1, Kd.R_below (Kd.R_below (Kd.R_mono (Kd.R_bound hr) (fun q hq => ⟨hq.1, .inl hq.2.2.1⟩)) hbW) hb1, hbx.1, hok, Kd.R_below (Kd.R_mono (Kd.R_bound hpa) (fun q hq => ⟨hq.1, Nat.lt_succ_of_lt hq.2.2.1⟩)) hb1, (hbel.trans (hbW.mono hbel.size)).trans (hb1.mono (by have := hbel.size; have := hbW.size; omega)), hlt, Nat.le_succ_of_le hbW.size, rfl, by have := HRL.out; omega⟩
  unfold RoundGoes
  generalize ((((w.alloc (.cells #[.func (.func fi) #[] caps] 72)).alloc (.cells #[.slice none 0 0] 29)).alloc (.cells #[.pointer (some ⟨g, 0, none⟩)] 23)).heap.size) = B
  rw [zip_one]
  simp only [List.setIfInBounds_toArray, List.set_cons_succ, List.set_cons_zero]
  refine assign_box (cs := x.val) lr (fun _ _ h => h) rfl rfl rfl rfl rfl rfl hs h1c rfl rfl ?_
  have hl3 : ((W.alloc (.cells z36 36)).setRow W.heap.size x.val).heap[lr]? = some (.loop rr) := (hb1.block lr (Array.getElem?_eq_some_iff.1 hl2).1).trans hl2
  generalize hW1 : (W.alloc (.cells z36 36)).setRow W.heap.size x.val = W1 at hb1 hAB hl3 ⊢
  refine ⟨keeps_of_below hb1, hb1.mono (by have := hbel.size; have := hbW.size; omega), fun r => ?_⟩
  have hAB2 : SB w (.func (.func fi) #[] caps) p pre x W0.heap.size (W.heap.size + 1) W.heap.size v (W1.putObj lr (.loop r)) :=
   ⟨blk_put hAB.fb (by omega), blk_put hAB.out (by omega), R_put hAB.rows hl3 rfl _, blk_put hAB.box (by have := hbW.size; omega), hAB.ok, R_put hAB.attrs hl3 rfl _, hAB.bel.trans ((Below.refl _ W1).grown (grownBy_putObj' W1 lr _) hAB.bel.size (fun k e => by cases e; omega)), hAB.lt, hAB.le, hAB.eq, hAB.len⟩
  generalize W1.putObj lr (.loop r) = W2 at hAB2 ⊢
  have hlb := hbW.size
  generalize W0.heap.size = lo at hAB2 hlb
  generalize hbxe : W.heap.size = bx at hAB2 hlb ⊢
  have HAB := Aside0.mk hAB2
  have HLB := Aside0.mk hlb
  have HH := Aside0.mk (And.intro hs h1c)
  have HMEM := Aside0.mk hmem
  clear hlb hbel hAB hAB2 hl1 hl0 hl2 hl3 hb1 hbx hpa hbW hv hr hfb hlt hW1 hbxe hok hlen h1c hmem bF bO bG hB0
  simp only [Act.put, List.setIfInBounds_toArray, List.set_cons_succ, List.set_cons_zero]
  have hbxlt : bx < W2.heap.size := (Array.getElem?_eq_some_iff.1 HAB.out.box).1
  have HBX := Aside0.mk hbxlt
  obtain ⟨A0, c0, e0, hc0, hC0⟩ := Kd.R_reads HAB.out.attrs
  injection e0 with e01 e02 e03
  subst e01; subst e03
  have HW2 := Aside0.mk (HWT.out x W2 HAB.out.bel HMEM.out HAB.out.ok hC0 hc0)
  have c3 := HAB.out.fb.cell
  clear hbxlt hC0 hc0 e02
  gi_wp2_with (first | (refine listIn_load_row (some lr) _ rfl 36 (.tmp 6) rfl bx rfl 36 x.val (0, 0) _ HAB.out.box hu36 rfl (by rw [hs]; kernel_rfl) (Aside0.out ?_); refine ⟨?_⟩))
  refine ⟨trivial, ?_⟩
  change CallsIn Fence.wide _ _ _ _ _ _
  refine ((callsIn_wide (n := 2)).2 HW2.out).mono ?_
  rintro e w3 ⟨rfl, hb3⟩
  have HB3 := Aside0.mk hb3
  have HAB3 := Aside0.mk (HAB.out.kept hb3)
  clear hb3 c3
  cases hp : p x.r with
  | false =>
   have HP : Aside0 (((pre ++ [x]).map Rg.r).filter p = (pre.map Rg.r).filter p) := ⟨by rw [List.map_append, List.filter_append]; simp [hp]⟩
   clear hp
   gi_wp2
   exact ⟨keeps_of_below HB3.out, HB3.out.mono HAB.out.bel.size, ⟨⟨v, HAB3.out.out, by rw [HP.out]; exact Kd.R_mono HAB3.out.rows (fun q hq => hq.1)⟩, HAB3.out.fb⟩, HAB3.out.bel⟩
  | true =>
   have HP : Aside0 (((pre ++ [x]).map Rg.r).filter p = (pre.map Rg.r).filter p ++ [x.r]) := ⟨by rw [List.map_append, List.filter_append]; simp [hp]⟩
   have c5 := (blk_cell HAB3.out.out 0).trans (show _ = some v from rfl)
   clear hp
   gi_wp2_with (first | (refine listIn_load_row (some lr) _ rfl 36 (.tmp 6) rfl bx rfl 36 x.val (0, 0) _ HAB3.out.box hu36 rfl (by rw [hs]; kernel_rfl) (Aside0.out ?_)))
   refine ⟨?_⟩
   refine list_round (some lr) _ (fun _ _ h => h) _ _ _ (noDef_spec (ops := #[_, _, _]) (by kernel_rfl)) ?_
   refine wpList_buildRec 14 rfl rfl (some 15) rfl hs rfl ?_
   go_wp2_with (((with_reducible refine gate_builtin (b := .append) (xs := #[.tmp 13, .tmp 15]) rfl ?_); at_builtin; refine Aside0.out ?_))
   refine ⟨?_⟩
   have hds2 : x.val = x.val.toList.toArray := by simp
   rw [hds2]
   refine Kd.R_append kRc (w0 := W2) w.heap.size rfl (.tmp 13) (.tmp 15) 29 36 (.agg z36) 128 rfl Tryz.underlying29 info36 rfl (show 0 < 40 from by decide) (by omega) v ((pre.map Rg.r).filter p) x.r x.val.toList (fun q => w.heap.size + 2 < q) (fun q => lo ≤ q ∧ q < bx + 1) rfl rfl ⟨HAB3.out.ok, _, rfl, Kd.R_lower HAB3.out.attrs (by have := HAB.out.lt; omega)⟩ (fun k hk => ⟨by have := HAB.out.lt; omega, fun e => by have h2 := (HAB3.out.rows.1 _ e.symm).2; omega⟩) (fun k hk => by have h1 := HAB.out.lt; have h2 := HBX.out; have h3 := HB3.out.size; have h4 := HLB.out; omega) (Kd.R_mono HAB3.out.rows (fun q hq => hq.1)) (HB3.out.mono HAB.out.bel.size) HAB3.out.bel.size (by have h1 := List.length_filter_le p (pre.map Rg.r); rw [List.length_map] at h1; have := HAB3.out.len; omega) ?_
   intro v4 W4 hR4 hb4 hg4 _
   have hne1 : some (w.heap.size + 1) ≠ v.ownBlock := fun e => by have := (HAB3.out.rows.1 _ e.symm).1; omega
   have hne0 : some w.heap.size ≠ v.ownBlock := fun e => by have := (HAB3.out.rows.1 _ e.symm).1; omega
   have hob4 : W4.heap[w.heap.size + 1]? = some (.cells #[v] 29 (0, 0)) := (hg4.block _ (blk_lt HAB3.out.out) hne1).trans HAB3.out.out
   have hfb4 : Boxed W4 w.heap.size 72 (.func (.func fi) #[] caps) := (hg4.block _ HAB3.out.fb.lt hne0).trans HAB3.out.fb
   have hkf4 : KeepsFrom B W2 W4 := (keeps_of_below HB3.out).trans (keeps_chg (Chg.grown (F := fun q => v.ownBlock = some q) hg4 (fun q e => e)) (fun q hq => by
    obtain ⟨cells, hcl⟩ := Kd.R_typed HAB3.out.rows q hq
    exact ⟨cells, 36, (0, 0), hcl⟩))
   have q1 := blk_cell hob4 0
   have f1 := blk_frozen hob4 0
   have H4 := Aside0.mk (And.intro hR4 (And.intro hob4 (And.intro hfb4 (And.intro hkf4 hb4))))
   obtain ⟨A4, c4, hv4⟩ := Kd.R_slice hR4
   rw [List.length_append, List.length_singleton] at hv4
   subst hv4
   clear hR4 hb4 hg4 hne1 hne0 hob4 hfb4 hkf4 hds2
   go_wp2_with fail
   obtain ⟨hR4, hob4, hfb4, hkf4, hb4⟩ := H4.out
   have hbe : Below w.heap.size W2 (W4.setCell ⟨w.heap.size + 1, 0, none⟩ (.slice A4 (((pre.map Rg.r).filter p).length + 1) c4)) := hb4.setCell (by show w.heap.size ≤ w.heap.size + 1; omega) _
   refine ⟨hkf4.trans ((KeepsOthers.setCell _ _ _).from _), hbe, ⟨⟨_, blk_set hob4 0 _, ?_⟩, hfb4.other (by omega) _⟩, HAB.out.bel.trans hbe⟩
   rw [HP.out]
   exact Kd.R_set hR4 hob4 (by decide) 0 _
 case done =>
  rintro D zs W hD hzs ⟨⟨⟨v, hv, hr⟩, hfb⟩, hbel⟩ hK
  rw [hzs] at hr
  simp only [World.size_alloc] at hD
  have hc := hv.cell
  have HV := Aside0.mk (And.intro hv (And.intro hr (And.intro hbel hK)))
  have HSO2 := Aside0.mk (HSO.out v W _ hbel.size (Kd.R_bound hr))
  clear hr hfb hbel hK hzs bF bO bG hB0 hv
  gi_wp2_with (refine ⟨trivial, ?_⟩; gi_at_call 67; refine ((callsIn_wide (n := 4)).2 HSO2.out).mono ?_; rintro e w2 ⟨rfl, hr2, hch2⟩; have HR2 := Aside0.mk hr2; have HCH2 := Aside0.mk hch2; have hv2 : Boxed w2 (w.heap.size + 1) 29 v := (hch2.block _ HV.out.1.lt (fun e => by have := e.1; omega)).trans HV.out.1; have hc2 := hv2.cell; clear hr2 hch2 hv2)
  have hDl : D < W.heap.size := (Array.getElem?_eq_some_iff.1 HV.out.2.2.2).1
  have hK2 : w2.heap[D]? = some (.deferred (some [])) := (HCH2.out.block D hDl (fun e => by
   obtain ⟨_, _, _, t, _, cells, hcl⟩ := e
   rw [HV.out.2.2.2] at hcl
   cases hcl)).trans HV.out.2.2.2
  have hb2 : Below w.heap.size w w2 := HV.out.2.2.1.trans (HCH2.out.below (B := w.heap.size) (fun q hq => hq.2.1) HV.out.2.2.1.size)
  refine ⟨by simp, .inl ⟨_, _, rfl, run_takeDeferred hK2, ?_⟩⟩
  refine ⟨_, results_tmp rfl _ _ _, v, rfl, Kd.R_mono (R_put HR2.out hK2 rfl _) (fun _ _ => trivial), ?_⟩
  exact hb2.trans (belowK_b (w := w) (Nat.le_refl _) w2 D _ _ (by omega) hK2 rfl rfl)
end Go.Proofs.YtefeibndnghejaaGreatDoor.Pr
end
section
set_option linter.unusedVariables false
set_option linter.unusedSimpArgs false
namespace Go.Proofs.YtefeibndnghejaaGreatDoor.Pr
open Go.RowKit Go.Proofs.YtefeibndnghejaaGreatDoorW.PrintWords Go.Proofs.YtefeibndnghejaaGreatDoorW.PrintLast Go.Proofs.YtefeibndnghejaaGreatDoorW.PrintMore
def selP (kind : Int) (name : ByteArray) (fr too : Int) (ft : List S85 → Bool) (r : Rd) : Bool := r.x.kd == kind && ((name.toList.isEmpty || r.x.nm.toList == name.toList) && (decide (fr ≤ r.x.tm) && (decide (r.x.tm ≤ too) && ft r.a)))
structure SelBox (W : World) (b1 b2 b3 b4 b5 : Nat) (kind : Int) (name : ByteArray) (fr too : Int) (mv : Value) : Prop where
  h1 : W.cell? ⟨b1, 0, none⟩ = some (.int .i64 kind)
  h2 : W.cell? ⟨b2, 0, none⟩ = some (.string name)
  h3 : W.cell? ⟨b3, 0, none⟩ = some (.int .i64 fr)
  h4 : W.cell? ⟨b4, 0, none⟩ = some (.int .i64 too)
  h5 : W.cell? ⟨b5, 0, none⟩ = some mv
theorem SelBox.below {W W' : World} {b1 b2 b3 b4 b5 : Nat} {kind : Int} {name : ByteArray} {fr too : Int} {mv : Value} (h : SelBox W b1 b2 b3 b4 b5 kind name fr too mv) (hb : Below W.heap.size W W') : SelBox W' b1 b2 b3 b4 b5 kind name fr too mv :=
 have k : ∀ {b : Nat} {v : Value}, W.cell? ⟨b, 0, none⟩ = some v → W'.cell? ⟨b, 0, none⟩ = some v := fun h => (hb.cell (World.block_lt_of_cell? W _ h)).trans h
 ⟨k h.h1, k h.h2, k h.h3, k h.h4, k h.h5⟩
theorem fits_nil (A : Option Addr) (n c : Nat) (w : World) : Calls Tryz.prog 38 #[.slice A n c, .slice none 0 0] w fun e w' => e = .returned (.bool true) ∧ w' = w := by
 go_enter Tryz.func38, Tryz.ntmps38
 go_wp2
 refine wp_loop_rounds 1 ?_
 rw [rounds_succ]
 go_wp2
 go_ret
 exact ⟨rfl, rfl⟩
set_option maxRecDepth 100000 in
set_option maxHeartbeats 8000000 in
theorem sel1_walk (r : Rd) (hx : r.x.ok) (A : Option Addr) (c : Nat) (b1 b2 b3 b4 b5 : Nat) (kind : Int) (name : ByteArray) (fr too : Int) (mv : Value) (ft : List S85 → Bool) (w : World) (hB : SelBox w b1 b2 b3 b4 b5 kind name fr too mv)
  (hft : ∀ W, Below w.heap.size w W → Calls Tryz.prog 38 #[.slice A r.a.length c, mv] W fun e w' => e = .returned (.bool (ft r.a)) ∧ Below W.heap.size W w') :
  Calls Tryz.prog 37 #[.agg (r.x.cells (.slice A r.a.length c)), .pointer (some ⟨b1, 0, none⟩), .pointer (some ⟨b2, 0, none⟩), .pointer (some ⟨b3, 0, none⟩), .pointer (some ⟨b4, 0, none⟩), .pointer (some ⟨b5, 0, none⟩)] w fun e w' => e = .returned (.bool (selP kind name fr too ft r)) ∧ Below w.heap.size w w' := by
 obtain ⟨cs, hcs⟩ : ∃ cs, cs = r.x.cells (.slice A r.a.length c) := ⟨_, rfl⟩
 have p0 : cs[0]? = some (.int .i64 r.x.kd) := by rw [hcs]; rfl
 have p1 : cs[1]? = some (.string r.x.nm) := by rw [hcs]; rfl
 have p2 : cs[2]? = some (.slice A r.a.length c) := by rw [hcs]; exact Rc.at2 _ _
 have p3 : cs[3]? = some (.int .i64 r.x.tm) := by rw [hcs]; rfl
 rw [← hcs]
 obtain ⟨W1, hW1⟩ : ∃ W1, W1 = w.alloc (.cells cs 36) := ⟨_, rfl⟩
 have hb : Below w.heap.size w W1 := hW1 ▸ below_alloc (Below.refl _ _) _
 have bx : W1.heap[w.heap.size]? = some (.cells cs 36 (0, 0)) := hW1 ▸ blk_new w _
 have c0 := (blk_cell bx 0).trans p0
 have c1 := (blk_cell bx 1).trans p1
 have c2 := (blk_cell bx 2).trans p2
 have c3 := (blk_cell bx 3).trans p3
 obtain ⟨g1, g2, g3, g4, g5⟩ := hB.below hb
 have HB := Aside0.mk hb
 have HFT := Aside0.mk (hft W1 hb)
 clear p0 p1 p2 p3 bx hb hcs hB hft hx
 unfold selP
 generalize hft : ft r.a = fb at HFT ⊢
 clear hft
 generalize r.x.kd = kd at *
 generalize r.x.nm = nm at *
 generalize r.x.tm = tm at *
 generalize r.a.length = n at *
 cases e1 : (kd == kind) with
 | false =>
  go_enter Tryz.func37, Tryz.ntmps37
  go_upto_region 1 with (fail)
  rw [← hW1]
  clear hW1
  go_wp2
  go_ret
  exact ⟨rfl, HB.out⟩
 | true =>
  cases e2 : name.toList.isEmpty with
  | true =>
   have e2' : name.toList = [] := List.isEmpty_iff.1 e2
   by_cases h4 : fr ≤ tm
   ·
    have e4 := decide_eq_true h4
    by_cases h5 : tm ≤ too
    ·
     have e5 := decide_eq_true h5
     rw [e4, e5]
     go_enter Tryz.func37, Tryz.ntmps37
     go_upto_region 1 with (fail)
     rw [← hW1]
     clear hW1
     go_wp2_with (go_at_call 38; refine HFT.out.mono ?_; rintro e w2 ⟨rfl, hd⟩; have HD := Aside0.mk (below_step HB.out hd); clear hd)
     go_ret
     exact ⟨rfl, HD.out⟩
    ·
     have e5 := decide_eq_false h5
     rw [e4, e5]
     go_enter Tryz.func37, Tryz.ntmps37
     go_upto_region 1 with (fail)
     rw [← hW1]
     clear hW1
     go_wp2
     go_ret
     exact ⟨rfl, HB.out⟩
   ·
    have e4 := decide_eq_false h4
    rw [e4]
    go_enter Tryz.func37, Tryz.ntmps37
    go_upto_region 1 with (fail)
    rw [← hW1]
    clear hW1
    go_wp2
    go_ret
    exact ⟨rfl, HB.out⟩
  | false =>
   have e2' : ¬ name.toList = [] := fun e => by rw [e] at e2; cases e2
   cases e3 : (nm.toList == name.toList) with
   | false =>
    go_enter Tryz.func37, Tryz.ntmps37
    go_upto_region 1 with (fail)
    rw [← hW1]
    clear hW1
    go_wp2
    go_ret
    exact ⟨rfl, HB.out⟩
   | true =>
    by_cases h4 : fr ≤ tm
    ·
     have e4 := decide_eq_true h4
     by_cases h5 : tm ≤ too
     ·
      have e5 := decide_eq_true h5
      rw [e4, e5]
      go_enter Tryz.func37, Tryz.ntmps37
      go_upto_region 1 with (fail)
      rw [← hW1]
      clear hW1
      go_wp2_with (go_at_call 38; refine HFT.out.mono ?_; rintro e w2 ⟨rfl, hd⟩; have HD := Aside0.mk (below_step HB.out hd); clear hd)
      go_ret
      exact ⟨rfl, HD.out⟩
     ·
      have e5 := decide_eq_false h5
      rw [e4, e5]
      go_enter Tryz.func37, Tryz.ntmps37
      go_upto_region 1 with (fail)
      rw [← hW1]
      clear hW1
      go_wp2
      go_ret
      exact ⟨rfl, HB.out⟩
    ·
     have e4 := decide_eq_false h4
     rw [e4]
     go_enter Tryz.func37, Tryz.ntmps37
     go_upto_region 1 with (fail)
     rw [← hW1]
     clear hW1
     go_wp2
     go_ret
     exact ⟨rfl, HB.out⟩
end Go.Proofs.YtefeibndnghejaaGreatDoor.Pr
end
section
set_option linter.unusedVariables false
set_option linter.unusedSimpArgs false
namespace Go.Proofs.YtefeibndnghejaaGreatDoor.Pr
open Go.RowKit Go.Proofs.YtefeibndnghejaaGreatDoorW.PrintWords Go.Proofs.YtefeibndnghejaaGreatDoorW.PrintLast Go.Proofs.YtefeibndnghejaaGreatDoorW.PrintMore
theorem sort1_walk (A : Option Addr) (n c : Nat) (w : World) (hn : n ≤ 1) : Calls Tryz.prog 67 #[.slice A n c, .func (.func 68) #[] #[]] w fun e w' => e = .returned (.tuple #[]) ∧ w' = w := by
 have h107 : Calls Tryz.prog 107 #[.slice A n c, .int .i64 0, .int .i64 n, .func (.func 68) #[] #[]] w fun e w' => e = .returned (.tuple #[]) ∧ w' = w := by
  have hz : ¬ (1 : Int) < (n : Int) := by omega
  go_enter Tryz.func107, Tryz.ntmps107
  go_wp2
  refine wp_loop_rounds 1 ?_
  rw [rounds_succ]
  go_wp2
  first | go_end0 | refine bodyPost_ret (results_none rfl _ _ _) rfl ?_
  exact ⟨rfl, rfl⟩
 have H := Aside0.mk h107
 clear h107
 have h86 : Calls Tryz.prog 86 #[.slice A n c, .int .i64 n, .func (.func 68) #[] #[]] w fun e w' => e = .returned (.tuple #[]) ∧ w' = w := by
  have hz : ¬ (20 : Int) ≤ (n : Int) := by omega
  have hz2 : ¬ (20 : Int) < (n : Int) := by omega
  go_enter Tryz.func86, Tryz.ntmps86
  go_wp2
  refine wp_loop_rounds 1 ?_
  rw [rounds_succ]
  go_wp2_with (go_at_call 107; refine H.out.mono ?_; rintro e w1 ⟨rfl, rfl⟩)
  refine wp_loop_rounds 1 ?_
  rw [rounds_succ]
  go_wp2
  first | go_end0 | refine bodyPost_ret (results_none rfl _ _ _) rfl ?_
  exact ⟨rfl, rfl⟩
 have H2 := Aside0.mk h86
 clear h86
 go_enter Tryz.func67, Tryz.ntmps67
 go_wp2_with (go_at_call 86; refine H2.out.mono ?_; rintro e w1 ⟨rfl, rfl⟩)
 first | go_end0 | refine bodyPost_ret (results_none rfl _ _ _) rfl ?_
 exact ⟨rfl, rfl⟩
set_option maxRecDepth 100000 in
set_option maxHeartbeats 4000000 in
theorem select_walk (kind : Int) (name : ByteArray) (Am : Option Addr) (nm cm : Nat) (fr too : Int) (ft : List S85 → Bool) (srt : List Rd → List Rd) (g : Nat) (most ver : Int) (R : List Rd) (base : Nat) (F : Nat → Prop) (w : World) (hS : St w base F g most ver R) (hR : R.length < 1048576)
  (hft : ∀ r ∈ R, ∀ A c W, Below w.heap.size w W → Kd.C k85 W A r.a.length r.a → r.a.length ≤ c → Calls Tryz.prog 38 #[.slice A r.a.length c, .slice Am nm cm] W fun e w' => e = .returned (.bool (ft r.a)) ∧ Below W.heap.size W w')
  (hsort : ∀ (v : Value) (W : World) (base' : Nat) (ok' : Nat → Prop), base' ≤ W.heap.size → kRc.R 36 W base' ok' v (R.filter (selP kind name fr too ft)) → Calls Tryz.prog 67 #[v, .func (.func 68) #[] #[]] W fun e w' => e = .returned (.tuple #[]) ∧ kRc.R 36 w' base' ok' v (srt (R.filter (selP kind name fr too ft))) ∧ Chg ok' W w') :
  Calls Tryz.prog 11 #[.pointer (some ⟨g, 0, none⟩), .int .i64 kind, .string name, .slice Am nm cm, .int .i64 fr, .int .i64 too] w fun e w' => ∃ v, e = .returned v ∧ kRc.R 36 w' w.heap.size (fun _ => True) v (srt (R.filter (selP kind name fr too ft))) ∧ Below w.heap.size w w' := by
 obtain ⟨l, m1, m2, FR, FM, F1, F2, hP⟩ := hS
 obtain ⟨W1, hW1⟩ : ∃ W1, W1 = ((((w.alloc (.cells #[.int .i64 kind] 3)).alloc (.cells #[.string name] 9)).alloc (.cells #[.slice Am nm cm] 40)).alloc (.cells #[.int .i64 fr] 2)).alloc (.cells #[.int .i64 too] 2) := ⟨_, rfl⟩
 have hb : Below w.heap.size w W1 := hW1 ▸ below_alloc (below_alloc (below_alloc (below_alloc (below_alloc (Below.refl _ _) _) _) _) _) _
 have hsz : W1.heap.size = w.heap.size + 5 := by rw [hW1]; simp
 have hbx : SelBox W1 w.heap.size (w.heap.size + 1) (w.heap.size + 1 + 1 + 1) (w.heap.size + 1 + 1 + 1 + 1) (w.heap.size + 1 + 1) kind name fr too (.slice Am nm cm) := by
  rw [hW1]
  have n1 := blk_new w (.cells #[.int .i64 kind] 3)
  have n2 := blk_new (w.alloc (.cells #[.int .i64 kind] 3)) (.cells #[.string name] 9)
  have n3 := blk_new ((w.alloc (.cells #[.int .i64 kind] 3)).alloc (.cells #[.string name] 9)) (.cells #[.slice Am nm cm] 40)
  have n4 := blk_new (((w.alloc (.cells #[.int .i64 kind] 3)).alloc (.cells #[.string name] 9)).alloc (.cells #[.slice Am nm cm] 40)) (.cells #[.int .i64 fr] 2)
  have n5 := blk_new ((((w.alloc (.cells #[.int .i64 kind] 3)).alloc (.cells #[.string name] 9)).alloc (.cells #[.slice Am nm cm] 40)).alloc (.cells #[.int .i64 fr] 2)) (.cells #[.int .i64 too] 2)
  simp only [World.size_alloc] at n2 n3 n4 n5
  exact ⟨(blk_cell (blk_alloc (blk_alloc (blk_alloc (blk_alloc n1 _) _) _) _) 0).trans rfl, (blk_cell (blk_alloc (blk_alloc (blk_alloc n2 _) _) _) 0).trans rfl, (blk_cell (blk_alloc n4 _) 0).trans rfl, (blk_cell n5 0).trans rfl, (blk_cell (blk_alloc (blk_alloc n3 _) _) 0).trans rfl⟩
 have hsome := some_walk 37 #[.pointer (some ⟨w.heap.size, 0, none⟩), .pointer (some ⟨w.heap.size + 1, 0, none⟩), .pointer (some ⟨w.heap.size + 1 + 1 + 1, 0, none⟩), .pointer (some ⟨w.heap.size + 1 + 1 + 1 + 1, 0, none⟩), .pointer (some ⟨w.heap.size + 1 + 1, 0, none⟩)] (selP kind name fr too ft) srt g most ver l m1 m2 R base FR W1
  (blk_below hP.mp.blk hb) (Kd.R_below hP.rec_ hb) hP.fine hR (enters_of Tryz.func37 (by kernel_rfl) rfl)
  (fun x W hbW hmem hok hC hc => sel1_walk x.r hok x.A x.c w.heap.size (w.heap.size + 1) (w.heap.size + 1 + 1 + 1) (w.heap.size + 1 + 1 + 1 + 1) (w.heap.size + 1 + 1) kind name fr too (.slice Am nm cm) ft W (hbx.below hbW) (fun W' hb' => hft x.r hmem x.A x.c W' (below_step (below_step hb hbW) hb') (Kd.C_below hC hb') hc))
  (fun v W ok' hle hr => hsort v W W1.heap.size ok' hle hr)
 have HS := Aside0.mk hsome
 have HB := Aside0.mk (And.intro hb hsz)
 clear hsome hbx hb hsz hft hsort hP
 go_enter Tryz.func11, Tryz.ntmps11
 go_upto_region 1 with (fail)
 rw [← hW1]
 clear hW1
 go_wp2_with (go_at_call 36; refine HS.out.mono ?_; rintro e w2 ⟨v, rfl, hr2, hb2⟩; have HR2 := Aside0.mk (And.intro hr2 hb2); obtain ⟨A2, c2, rfl⟩ := Kd.R_slice hr2; clear hr2 hb2)
 go_ret
 exact ⟨_, rfl, Kd.R_lower HR2.out.1 HB.out.1.size, below_step HB.out.1 HR2.out.2⟩
end Go.Proofs.YtefeibndnghejaaGreatDoor.Pr
end
