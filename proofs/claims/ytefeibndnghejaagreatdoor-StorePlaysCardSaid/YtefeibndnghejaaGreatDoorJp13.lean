import Derived.Test.YtefeibndnghejaaGreatDoorJp11
import Derived.Lib.SliceRun
import Derived.Maps.AppendAt
section
set_option linter.unusedVariables false
set_option linter.unusedSimpArgs false
namespace Go.Proofs.YtefeibndnghejaaGreatDoor.Pr
open Go.RowKit Go.Proofs.YtefeibndnghejaaGreatDoorW.PrintWords Go.Proofs.YtefeibndnghejaaGreatDoorW.PrintLast Go.Proofs.YtefeibndnghejaaGreatDoorW.PrintMore
def Rc.fin (x : Rc) : Int := if x.kd = 3 then x.tw else x.tm
def store_Cut_1.T1 : Bool × List (List Nat × List Nat) := (true, [([], []), ([0], [0]), ([], []), ([1, 2], [1, 2]), ([3, 1, 0, 1, 2, 3], [3])])
def store_Cut_1.B1 : List Nat := [0, 1, 0, 7, 15]
set_option maxRecDepth 100000 in
theorem store_Cut_1.tab1 : rtab .any (opsOf Tryz.f46 1) = store_Cut_1.T1 := by kernel_rfl
set_option maxRecDepth 100000 in
theorem store_Cut_1.bits1 : waitsOk store_Cut_1.T1.2 store_Cut_1.B1 = true := by kernel_rfl
theorem end_walk (x : Rc) (hx : x.ok) (v : Value) (w : World) : Calls Tryz.prog 47 #[.agg (x.cells v)] w fun e w' => e = .returned (.int .i64 x.fin) ∧ Below w.heap.size w w' := by
 obtain ⟨cs, hcs⟩ : ∃ cs, cs = x.cells v := ⟨_, rfl⟩
 have h0 : cs[0]? = some (.int .i64 x.kd) := by rw [hcs]; rfl
 have h3 : cs[3]? = some (.int .i64 x.tm) := by rw [hcs]; rfl
 have h4 : cs[4]? = some (.int .i64 x.tw) := by rw [hcs]; rfl
 rw [← hcs]
 clear hcs
 have c0 := (blk_cell (blk_new w (.cells cs 36)) 0).trans h0
 have c3 := (blk_cell (blk_new w (.cells cs 36)) 3).trans h3
 have c4 := (blk_cell (blk_new w (.cells cs 36)) 4).trans h4
 clear h0 h3 h4
 by_cases hk : x.kd = 3
 ·
  have b1 : (x.kd == 3) = true := by simp [hk]
  have hf : x.fin = x.tw := if_pos hk
  rw [hf]
  clear hf
  generalize x.kd = kd at *
  go_enter Tryz.func47, Tryz.ntmps47
  go_wp2
  go_ret
  exact ⟨rfl, below_alloc (Below.refl _ _) _⟩
 ·
  have b1 : (x.kd == 3) = false := by simp [hk]
  have hf : x.fin = x.tm := if_neg hk
  rw [hf]
  clear hf
  generalize x.kd = kd at *
  go_enter Tryz.func47, Tryz.ntmps47
  go_wp2
  go_ret
  exact ⟨rfl, below_alloc (Below.refl _ _) _⟩
set_option maxRecDepth 100000 in
set_option maxHeartbeats 4000000 in
theorem cut1_walk (x : Rc) (hx : x.ok) (v : Value) (tb : Nat) (t : Int) (w : World) (ht : w.cell? ⟨tb, 0, none⟩ = some (.int .i64 t)) :
  Calls Tryz.prog 46 #[.agg (x.cells v), .pointer (some ⟨tb, 0, none⟩)] w fun e w' => e = .returned (.bool (decide (x.fin < t))) ∧ Below w.heap.size w w' := by
 obtain ⟨cs, hcs⟩ : ∃ cs, cs = x.cells v := ⟨_, rfl⟩
 have hs : cs.size = 40 := by rw [hcs]; exact Rc.size hx v
 rw [← hcs]
 have HCS := Aside0.mk hcs
 have HX := Aside0.mk hx
 clear hcs hx
 obtain ⟨W1, hW1⟩ : ∃ W1, W1 = w.alloc (.cells cs 36) := ⟨_, rfl⟩
 have HBW := Aside0.mk (hW1 ▸ below_alloc (Below.refl _ _) _ : Below w.heap.size w W1)
 have HN := Aside0.mk (hW1 ▸ blk_new w _ : W1.heap[w.heap.size]? = some (.cells cs 36 (0, 0)))
 have HT := Aside0.mk ((HBW.out.cell (World.block_lt_of_cell? w _ ht)).trans ht)
 clear ht
 go_enter Tryz.func46, Tryz.ntmps46
 go_upto_region 1 with (fail)
 rw [← hW1]
 clear hW1
 refine start_ (n := 5) (S := fun w' => Below W1.heap.size W1 w') (ds := [4]) #[false, false, false, false, false] (by kernel_rfl) rfl rfl (below_drew1 (Below.refl _ _)) (fun hHeld => ?_)
 refine with_tabW store_Cut_1.tab1 store_Cut_1.bits1 (fun HT_ HW_ => ?_)
 generalize W1.drew = W0 at hHeld ⊢
 refine take_ (i := 0) (N := some 4) (v := ?_) (a' := ?_) #[true, false, false, false, false] rfl rfl (take_ofW HT_.out HW_.out (by kernel_rfl)) (fun _ _ _ h => h) (Or.inl ⟨by rfl, ?_⟩) hHeld ?_ ?_
 rotate_left
 ·
  rintro w' hw
  refine exec_load36 (x := .tmp 2) ?_ ?_ (blk_below HN.out hw) hs
  ·
   rfl
  ·
   rfl
 rotate_left
 ·
  simp only [Act.put, List.setIfInBounds_toArray, List.set_cons_zero, List.set_cons_succ, i64_w, i32_w]
  rfl
 refine take_ (i := 2) (N := some 6) (v := ?_) (a' := ?_) #[true, false, true, false, false] rfl rfl (take_ofW HT_.out HW_.out (by kernel_rfl)) (fun _ _ _ h => h) (Or.inl ⟨by rfl, ?_⟩) hHeld ?_ ?_
 rotate_left
 ·
  rintro w' hw
  have y := (hw.cell (World.block_lt_of_cell? W1 _ HT.out)).trans HT.out
  go_simp
  with_reducible rfl
 rotate_left
 ·
  simp only [Act.put, List.setIfInBounds_toArray, List.set_cons_zero, List.set_cons_succ, i64_w, i32_w]
  rfl
 refine one_ (i := 1) (N := some 5) #[true, true, true, false, false] rfl rfl (one_of HT_.out (by kernel_rfl)) (by decide) (fun K hK => ?_)
 refine goes_ Tryz.func47 (by kernel_rfl) rfl #[.agg cs] (by rfl) rfl rfl (by (try simp only [List.map_toArray, List.map_cons, List.map_nil]); first | done | rfl) ?_
 refine (HCS.out ▸ end_walk x HX.out v W0).mono ?_
 rintro e w2 ⟨rfl, hd⟩
 refine ⟨_, rfl, ?_⟩
 refine hK.out _ _ (below_step hHeld hd) (fun hHeld => ?_)
 clear hK K hd
 refine norm_ (a' := ?_) ?_ ?_
 rotate_left
 ·
  show Act.put _ (some 5) _ = _
  simp only [Act.put, List.setIfInBounds_toArray, List.set_cons_zero, List.set_cons_succ, i64_w, i32_w]
  rfl
 refine pure_ (i := 3) (N := some 7) (v := ?_) (a' := ?_) #[true, true, true, true, false] rfl rfl (any_of HT_.out (by kernel_rfl)) (fun _ _ _ h => h) (Or.inl ⟨by rfl, ?_⟩) ?_ ?_
 rotate_left
 ·
  intro w'
  go_simp
  with_reducible rfl
 rotate_left
 ·
  simp only [Act.put, List.setIfInBounds_toArray, List.set_cons_zero, List.set_cons_succ, i64_w, i32_w]
  rfl
 refine pure_ (i := 4) (N := some 3) (v := ?_) (a' := ?_) #[true, true, true, true, true] rfl rfl (any_of HT_.out (by kernel_rfl)) (fun _ _ _ h => h) (Or.inl ⟨by rfl, ?_⟩) ?_ ?_
 rotate_left
 ·
  intro w'
  go_simp
  with_reducible rfl
 rotate_left
 ·
  simp only [Act.put, List.setIfInBounds_toArray, List.set_cons_zero, List.set_cons_succ, i64_w, i32_w]
  rfl
 refine done_ (done_of HT_.out (by kernel_rfl)) ?_
 go_wp2
 go_ret
 exact ⟨rfl, below_step HBW.out hHeld⟩
def idxF (p : Rd → Bool) : List Rd → Nat
  | [] => 0
  | r :: l => if p r then 0 else idxF p l + 1
theorem idxF_le (p : Rd → Bool) : ∀ l : List Rd, idxF p l ≤ l.length
 | [] => Nat.le_refl _
 | r :: l => by
  unfold idxF
  split
  ·
   simp
  ·
   have := idxF_le p l; simp; omega
def idxI (p : Rd → Bool) (R : List Rd) : Int := if idxF p R < R.length then (idxF p R : Int) else -1
set_option maxRecDepth 100000 in
set_option maxHeartbeats 4000000 in
theorem idx_walk (gr : Nat) (c tb : Nat) (t : Int) (R : List Rd) (w : World) (hC : Kd.C kRc w (some ⟨gr, 0, none⟩) R.length R) (hc : R.length ≤ c) (ht : w.cell? ⟨tb, 0, none⟩ = some (.int .i64 t)) :
  Calls Tryz.prog 73 #[.slice (some ⟨gr, 0, none⟩) R.length c, .func (.func 46) #[] #[.pointer (some ⟨tb, 0, none⟩)]] w fun e w' =>
   e = .returned (.int .i64 (idxI (fun r => decide (r.x.fin < t)) R)) ∧ Below w.heap.size w w' := by
 have hu36 := Tryz.underlying36
 have HC := Aside0.mk hC
 have HT := Aside0.mk ht
 have hmx := Kd.C_max hC
 clear hC ht
 obtain ⟨p, hp⟩ : ∃ p : Rd → Bool, p = fun r => decide (r.x.fin < t) := ⟨_, rfl⟩
 rw [← hp]
 have HP := Aside0.mk hp
 clear hp
 go_enter Tryz.func73, Tryz.ntmps73
 go_wp2
 go_loopw [8] (fun v8 wr => ∃ k : Nat, k ≤ R.length ∧ v8 = .int .i64 k ∧ Aside0 (idxF p R = k + idxF p (R.drop k)) ∧ Aside0 (Below w.heap.size w wr)) (fun v8 _ => R.length - (intOf v8).toNat)
 case atStart => exact ⟨0, Nat.zero_le _, rfl, ⟨by simp⟩, ⟨Below.refl _ _⟩⟩
 case round =>
  obtain ⟨k, hk, rfl, HI, HB⟩ := hrel
  by_cases hlt : k < R.length
  ·
   obtain ⟨ad, B, cb, had, hok, hcell, hcb, hCa⟩ := rec_at HC.out k hlt
   injection had with had
   subst had
   have hbl : ((k : Nat) : Int) < (R.length : Int) := by omega
   have hrow : wr.rangeAt gr (k * 40) (R[k].x.cells (.slice B R[k].a.length cb)).toList := fun j u hu => by
    have h1 := hcell j u hu
    rw [Addr.add_mid, Nat.zero_add] at h1
    exact (HB.out.cell (World.block_lt_of_cell? w _ h1)).trans h1
   have hst : idxF p (R.drop k) = if p R[k] then 0 else idxF p (R.drop (k + 1)) + 1 := by rw [List.drop_eq_getElem_cons hlt, idxF]
   have hpk : p R[k] = decide (R[k].x.fin < t) := by rw [HP.out]
   obtain ⟨x, hx⟩ : ∃ x, x = R[k] := ⟨_, rfl⟩
   rw [← hx] at hok hrow hst hpk
   have hs := Rc.size hok (.slice B x.a.length cb)
   obtain ⟨cs, hcs⟩ : ∃ cs, cs = x.x.cells (.slice B x.a.length cb) := ⟨_, rfl⟩
   rw [← hcs] at hrow hs
   have HCS := Aside0.mk hcs
   have HROW := Aside0.mk hrow
   have HOK := Aside0.mk hok
   have HST := Aside0.mk hst
   have HPK := Aside0.mk hpk
   clear hcell hCa hcs hrow hok hx hst hpk
   have hw : wrap64 ((k : Int) + 1) = (k : Int) + 1 := by unfold wrap64; omega
   go_wp2_with (refine wpList_load_mid rfl 36 (.tmp 14) rfl gr (k * 40) rfl cs.toList _ HROW.out hu36 rfl (by rw [Array.length_toList, hs]; kernel_rfl) (Aside0.out ?_))
   refine ⟨?_⟩
   go_wp2_with (go_at_call 46; refine (HCS.out ▸ cut1_walk x.x HOK.out (.slice B x.a.length cb) tb t wr ((HB.out.cell (World.block_lt_of_cell? w _ HT.out)).trans HT.out)).mono ?_; rintro e w2 ⟨rfl, hb2⟩; have HB2 := Aside0.mk (below_step HB.out hb2); clear hb2; rw [← HPK.out]; generalize hpx : p x = px; have HPX := Aside0.mk hpx; clear hpx; cases px)
   ·
    go_wp2
    go_roundw
    case rel => exact ⟨k + 1, by omega, by simp [hw], ⟨by rw [HI.out, HST.out, HPX.out]; simp; omega⟩, HB2⟩
    case measure => simp [intOf, hw]; omega
   ·
    have hres : idxI p R = (k : Int) := by rw [idxI, HI.out, HST.out, HPX.out, if_pos rfl, Nat.add_zero, if_pos hlt]
    rw [hres]
    go_wp2
    go_ret
    exact ⟨rfl, HB2.out⟩
  ·
   obtain rfl : k = R.length := by omega
   have hres : idxI p R = -1 := by rw [idxI, if_neg (by rw [HI.out]; omega)]
   have HR := Aside0.mk hres
   clear hres
   have hz : ¬ (R.length : Int) < (R.length : Int) := by omega
   go_wp2
   go_ret
   exact ⟨by rw [HR.out]; rfl, HB.out⟩
end Go.Proofs.YtefeibndnghejaaGreatDoor.Pr
end
section
set_option linter.unusedVariables false
set_option linter.unusedSimpArgs false
namespace Go.Proofs.YtefeibndnghejaaGreatDoor.Pr
open Go.RowKit Go.Proofs.YtefeibndnghejaaGreatDoorW.PrintWords Go.Proofs.YtefeibndnghejaaGreatDoorW.PrintLast Go.Proofs.YtefeibndnghejaaGreatDoorW.PrintMore
theorem drawn_below {w w' : World} (h : Drawn0 w w') : Below w.heap.size w w' := by
 obtain ⟨n, rfl⟩ := h
 exact pw_below_drewN (Below.refl _ _) n
def serB (x y : Rc) (b : Bool) : Bool := x.kd == 1 && (y.kd == 1 && (x.nm.toList == y.nm.toList && b))
set_option maxRecDepth 100000 in
set_option maxHeartbeats 4000000 in
theorem series_walk (kn : Nat) (x y : Rd) (hx : x.x.ok) (hy : y.x.ok) (A0 A1 : Option Addr) (c0 c1 : Nat) (w : World) (hr0 : Kd.C k85 w A0 x.a.length x.a) (hc0 : x.a.length ≤ c0) (hr1 : Kd.C k85 w A1 y.a.length y.a) (hc1 : y.a.length ≤ c1) (b : Bool) (h : belfryref04_Same.f kn x.a y.a = some b) :
  Calls Tryz.prog 76 #[.agg (x.x.cells (.slice A0 x.a.length c0)), .agg (y.x.cells (.slice A1 y.a.length c1))] w fun e w' => e = .returned (.bool (serB x.x y.x b)) ∧ Below w.heap.size w w' := by
 obtain ⟨cs, hcs⟩ : ∃ cs, cs = x.x.cells (.slice A0 x.a.length c0) := ⟨_, rfl⟩
 obtain ⟨ds, hds⟩ : ∃ ds, ds = y.x.cells (.slice A1 y.a.length c1) := ⟨_, rfl⟩
 have p0 : cs[0]? = some (.int .i64 x.x.kd) := by rw [hcs]; rfl
 have p1 : cs[1]? = some (.string x.x.nm) := by rw [hcs]; rfl
 have p2 : cs[2]? = some (.slice A0 x.a.length c0) := by rw [hcs]; exact Rc.at2 _ _
 have q0 : ds[0]? = some (.int .i64 y.x.kd) := by rw [hds]; rfl
 have q1 : ds[1]? = some (.string y.x.nm) := by rw [hds]; rfl
 have q2 : ds[2]? = some (.slice A1 y.a.length c1) := by rw [hds]; exact Rc.at2 _ _
 rw [← hcs, ← hds]
 have HR0 := Aside0.mk hr0
 have HR1 := Aside0.mk hr1
 have HH := Aside0.mk h
 clear hr0 hr1 h hcs hds
 obtain ⟨W1, hW1⟩ : ∃ W1, W1 = (w.alloc (.cells cs 36)).alloc (.cells ds 36) := ⟨_, rfl⟩
 have hb : Below w.heap.size w W1 := hW1 ▸ below_alloc (below_alloc (Below.refl _ _) _) _
 have b0 : W1.heap[w.heap.size]? = some (.cells cs 36 (0, 0)) := hW1 ▸ blk_alloc (blk_new w _) _
 have b1 : W1.heap[w.heap.size + 1]? = some (.cells ds 36 (0, 0)) := by
  have := blk_new (w.alloc (.cells cs 36)) (.cells ds 36)
  rw [hW1]
  simpa using this
 have c00 := (blk_cell b0 0).trans p0
 have c01 := (blk_cell b0 1).trans p1
 have c02 := (blk_cell b0 2).trans p2
 have c10 := (blk_cell b1 0).trans q0
 have c11 := (blk_cell b1 1).trans q1
 have c12 := (blk_cell b1 2).trans q2
 have HB := Aside0.mk hb
 clear p0 p1 p2 q0 q1 q2 b0 b1 hb hx hy
 obtain ⟨x, xa⟩ := x
 obtain ⟨y, ya⟩ := y
 simp only at *
 unfold serB
 generalize x.kd = k1 at *
 generalize y.kd = k2 at *
 generalize x.nm = n1 at *
 generalize y.nm = n2 at *
 have e1 : (k1 == 1) = (k1 == 1) := rfl
 cases h1 : (k1 == 1) with
 | false =>
  go_enter Tryz.func76, Tryz.ntmps76
  go_upto_region 1 with (fail)
  rw [← hW1]
  clear hW1
  go_wp2
  go_ret
  exact ⟨rfl, HB.out⟩
 | true =>
  cases h2 : (k2 == 1) with
  | false =>
   go_enter Tryz.func76, Tryz.ntmps76
   go_upto_region 1 with (fail)
   rw [← hW1]
   clear hW1
   go_wp2
   go_ret
   exact ⟨rfl, HB.out⟩
  | true =>
   cases h3 : (n1.toList == n2.toList) with
   | false =>
    go_enter Tryz.func76, Tryz.ntmps76
    go_upto_region 1 with (fail)
    rw [← hW1]
    clear hW1
    go_wp2
    go_ret
    exact ⟨rfl, HB.out⟩
   | true =>
    go_enter Tryz.func76, Tryz.ntmps76
    go_upto_region 1 with (fail)
    rw [← hW1]
    clear hW1
    go_wp2_with fail
    refine (belfryref04_Same.calls kn A0 c0 xa A1 c1 ya b _ (Kd.C_below HR0.out HB.out) hc0 (Kd.C_below HR1.out HB.out) hc1 HH.out).mono ?_
    rintro e w2 ⟨rfl, hd⟩
    have HD := Aside0.mk (below_step HB.out (drawn_below hd))
    clear hd
    cases b with
    | true =>
     go_wp2
     go_ret
     exact ⟨rfl, HD.out⟩
    | false =>
     go_wp2
     go_ret
     exact ⟨rfl, HD.out⟩
end Go.Proofs.YtefeibndnghejaaGreatDoor.Pr
end
section
set_option linter.unusedVariables false
set_option linter.unusedSimpArgs false
namespace Go.Proofs.YtefeibndnghejaaGreatDoor.Pr
open Go.RowKit Go.Proofs.YtefeibndnghejaaGreatDoorW.PrintWords Go.Proofs.YtefeibndnghejaaGreatDoorW.PrintLast Go.Proofs.YtefeibndnghejaaGreatDoorW.PrintMore
theorem z36_ones : ∀ v ∈ z36.toList, v.oneCell' = true := by decide
section
variable {w : World} {base g n cap : Nat} {ok : Nat → Prop} {xs : List Rd}
theorem own_at {d : Kd Rd} {e : Nat} (h : d.R e w base ok (.slice (some ⟨g, 0, none⟩) n cap) xs) : n = xs.length ∧ base ≤ g ∧ n ≤ cap ∧ cap ≤ maxLen ∧ ok g ∧ ∃ cur inner, w.heap[g]? = some (.cells cur e (0, 0)) ∧ cur.size = cap * d.sz ∧ cur.toList.take (n * d.sz) = inner ∧ Reps (d.M w base (fun k => ok k ∧ k ≠ g)) d.sz xs inner := by
 have hn := (Kd.R_reads' h).1
 obtain ⟨hok, inner, ho, hr⟩ := h
 rcases ho.2 with ⟨hv, _⟩ | ⟨g1, cap1, cur, hv, hb, hh, hnc, hcm, hcs, ht⟩
 ·
  cases hv
 injection hv with h1 h2 h3
 injection h1 with h1
 injection h1 with h1
 subst h1; subst h2; subst h3
 refine ⟨rfl, hb, hnc, hcm, hok _ rfl, cur, inner, hh, hcs, ht, ?_⟩
 exact hr.imp_ (fun p c hp => d.M_mono (fun k hk => ⟨hk.1, fun e => hk.2 (by rw [e]; rfl)⟩) hp)
theorem clear36 (h : kRc.R 36 w base ok (.slice (some ⟨g, 0, none⟩) n cap) xs) (k c : Nat) (hk : k < n) :
  ∃ w', (∀ ty, (Builtin.clear_ #[29] ty #[.slice (some ⟨g, k * 40, none⟩) (n - k) c]).run Tryz.prog w = .ok (.tuple #[]) w') ∧ kRc.R 36 w' base ok (.slice (some ⟨g, 0, none⟩) k cap) (xs.take k) ∧ w.grownBy w' (some g) := by
 have hR := h
 obtain ⟨rfl, hb, hnc, hcm, hokg, cur, inner, hh, hcs, ht, hr⟩ := own_at h
 have hd : kRc.sz = 40 := rfl
 rw [hd] at hcs ht
 have hz : ∀ w, (zeroValue 36).run Tryz.prog w = .ok (.agg z36) w := fun w => by kernel_rfl
 have hce : (Value.agg z36).cells = z36 := rfl
 have hlen : (Builtin.zeroCells z36 (xs.length - k)).toList.length = (xs.length - k) * 40 := by
  simp only [Builtin.zeroCells, Array.length_toList, Array.size_map, Array.size_range]
  rfl
 have hone : ∀ v ∈ (Builtin.zeroCells z36 (xs.length - k)).toList, v.oneCell' = true := by
  intro v hv
  simp only [Builtin.zeroCells, Array.toList_map, List.mem_map] at hv
  obtain ⟨i, _, rfl⟩ := hv
  have hi : i % z36.size < z36.size := Nat.mod_lt _ (by decide)
  rw [getElem!_pos z36 _ hi]
  exact z36_ones _ (by simp)
 generalize hZ : (Builtin.zeroCells z36 (xs.length - k)).toList = Z at hlen hone
 have hfit : k * 40 + Z.length ≤ cur.size := by rw [hlen, hcs, ← Nat.add_mul]; exact Nat.mul_le_mul_right 40 (by omega)
 have hst := run_storeCells_cells (P := Tryz.prog) g (k * 40) Z 0 w (fun j hj => by rw [cell_of_row w g _ cur 36 (0, 0) hh]; simp; omega) (fun j _ => blk_frozen hh _) hone
 simp only [Nat.add_zero] at hst
 obtain ⟨m, hm⟩ : ∃ m, xs.length - k = m + 1 := ⟨xs.length - k - 1, by omega⟩
 refine ⟨w.setCells g (k * 40) Z, fun ty => ?_, ?_, ?_⟩
 ·
  rw [hm] at hZ ⊢
  simp [Builtin.clear_, run_underlying Tryz.underlying29, hz, hce, hZ, hst]
 ·
  obtain ⟨cur', h3, h4, h5⟩ := setCells_row Z (k * 40) w cur hh hfit
  have hlk : (xs.take k).length = k := by simp; omega
  refine ⟨fun q hq => hR.1 q hq, inner.take (k * 40), ⟨by rw [hlk, List.length_take, hr.1, hd, Nat.min_eq_left (Nat.mul_le_mul_right 40 (by omega))], .inr ⟨g, cap, cur', by rw [hlk], hb, h3, by rw [hlk]; omega, hcm, by rw [h4, hcs, hd], ?_⟩⟩, ?_⟩
  ·
   rw [hlk, hd, h5, List.append_assoc, List.take_append_of_le_length (by simp; omega), List.take_take, Nat.min_self, ← ht, List.take_take, Nat.min_eq_left (Nat.mul_le_mul_right 40 (by omega))]
  ·
   refine ⟨by rw [hlk, hd, List.length_take, hr.1, hd, Nat.min_eq_left (Nat.mul_le_mul_right 40 (by omega))], fun j p hj => ?_⟩
   have hjl := (List.getElem?_eq_some_iff.1 hj).1
   rw [hlk] at hjl
   rw [List.getElem?_take, if_pos hjl] at hj
   have hM := hr.2 j p hj
   rw [hd] at hM ⊢
   have e : ((inner.take (k * 40)).drop (j * 40)).take 40 = (inner.drop (j * 40)).take 40 := by
    rw [List.drop_take, List.take_take, Nat.min_eq_left (by omega)]
   rw [e]
   refine Kd.M_step (kRc.M_mono (fun q hq => ⟨hq.1, fun e => hq.2 (by injection e)⟩) hM) (fun q hq _ => setCells_far Z _ q (fun e => hq.2 (by rw [e]; rfl)))
 ·
  obtain ⟨s1, s2, s3, s4⟩ := setCells_same g Z (k * 40) w
  exact ⟨s1, s2, s3, by rw [s4]; exact Nat.le_refl _, fun q _ hq => setCells_far Z _ q (fun he => hq (by rw [he]))⟩
end
theorem idxF_split (p : Rd → Bool) : ∀ l : List Rd, (idxF p l = l.length → l.filter (fun r => !p r) = l) ∧ (∀ h : idxF p l < l.length, p l[idxF p l] = true ∧ l.take (idxF p l) ++ (l.drop (idxF p l + 1)).filter (fun r => !p r) = l.filter (fun r => !p r))
 | [] => ⟨fun _ => rfl, fun h => by cases h⟩
 | r :: l => by
  obtain ⟨h1, h2⟩ := idxF_split p l
  by_cases hp : p r = true
  ·
   have e : idxF p (r :: l) = 0 := by rw [idxF, if_pos hp]
   refine ⟨fun h => (by rw [e] at h; cases h), fun h => ?_⟩
   simp [e, hp]
  ·
   have hp' : p r = false := by simpa using hp
   have e : idxF p (r :: l) = idxF p l + 1 := by rw [idxF, if_neg hp]
   refine ⟨fun h => ?_, fun h => ?_⟩
   ·
    rw [e] at h
    rw [List.filter_cons, if_pos (by simp [hp']), h1 (by simpa using h)]
   ·
    have h' : idxF p l < l.length := by rw [e] at h; simpa using h
    obtain ⟨h3, h4⟩ := h2 h'
    refine ⟨?_, ?_⟩
    ·
     simp only [e, List.getElem_cons_succ]; exact h3
    ·
     rw [e, List.take_succ_cons, List.drop_succ_cons, List.filter_cons, if_pos (by simp [hp']), List.cons_append, h4]
def zRd : Rd := ⟨⟨0, ⟨#[]⟩, 0, 0, 0, 0, ⟨#[]⟩, [], [], []⟩, []⟩
theorem put_there {w : World} {gr : Nat} {i : Nat} {c : List Value} (hcl : c.length = 40) (hcc : ∀ j u, c[j]? = some u → w.cell? ⟨gr, i * 40 + j, none⟩ = some u) (hfr : ∀ j, w.frozen? ⟨gr, i * 40 + j, none⟩ = false) : w.there gr (i * 40) 40 := fun j hj =>
 ⟨by rw [hcc j _ (List.getElem?_eq_getElem (by omega))]; rfl, hfr j⟩
set_option maxRecDepth 100000 in
set_option maxHeartbeats 8000000 in
theorem del_walk (gr c tb : Nat) (t : Int) (R : List Rd) (w : World) (base : Nat) (ok : Nat → Prop) (hR : kRc.R 36 w base ok (.slice (some ⟨gr, 0, none⟩) R.length c) R) (ht : w.heap[tb]? = some (.cells #[.int .i64 t] 2 (0, 0))) (hgw : gr < w.heap.size) :
  Calls Tryz.prog 45 #[.slice (some ⟨gr, 0, none⟩) R.length c, .func (.func 46) #[] #[.pointer (some ⟨tb, 0, none⟩)]] w fun e w' =>
   ∃ k, e = .returned (.slice (some ⟨gr, 0, none⟩) k c) ∧ kRc.R 36 w' base ok (.slice (some ⟨gr, 0, none⟩) k c) (R.filter fun r => !decide (r.x.fin < t)) ∧ w.grownBy w' (some gr) := by
 have hu36 := Tryz.underlying36
 obtain ⟨-, hlc, hC⟩ := Kd.R_reads' hR
 have hmx := Kd.C_max hC
 have hct : w.cell? ⟨tb, 0, none⟩ = some (.int .i64 t) := (blk_cell ht 0).trans rfl
 have htg : tb ≠ gr := by
  obtain ⟨_, _, _, _, _, cur, _, hh, _⟩ := own_at hR
  intro e
  subst e
  rw [ht] at hh
  cases hh
 have HRC := Aside0.mk hR
 have HC := Aside0.mk hC
 have HT := Aside0.mk hct
 have HTG := Aside0.mk htg
 have HTB := Aside0.mk (World.block_lt_of_cell? w _ hct)
 have HGW := Aside0.mk hgw
 have HLC := Aside0.mk hlc
 obtain ⟨p, hp⟩ : ∃ p : Rd → Bool, p = fun r => decide (r.x.fin < t) := ⟨_, rfl⟩
 have hidx := idx_walk gr c tb t R w hC hlc hct
 rw [← hp] at hidx
 have hfil : (R.filter fun r => !decide (r.x.fin < t)) = R.filter fun r => !p r := by rw [hp]
 rw [hfil]
 have HIDX := Aside0.mk hidx
 have HP := Aside0.mk hp
 obtain ⟨hs1, hs2⟩ := idxF_split p R
 have hle := idxF_le p R
 clear hR hC hct htg hgw ht hidx hp hfil
 by_cases hall : idxF p R = R.length
 ·
  have HI : Aside0 (idxI p R = -1) := ⟨by rw [idxI, if_neg (by omega)]⟩
  have HF := Aside0.mk (hs1 hall)
  clear hs1 hs2 hall hle
  go_enter Tryz.func45, Tryz.ntmps45
  go_wp2_with (go_at_call 73; refine HIDX.out.mono ?_; rintro e w1 ⟨rfl, hb1⟩; have HB1 := Aside0.mk hb1; clear hb1; rw [HI.out])
  go_ret
  exact ⟨_, rfl, by rw [HF.out]; exact Kd.R_below HRC.out HB1.out, ⟨HB1.out.os, HB1.out.tape, HB1.out.output, HB1.out.size, fun k hk _ => HB1.out.block k hk⟩⟩
 ·
  have hlt0 : idxF p R < R.length := by omega
  obtain ⟨hpi, hsp⟩ := hs2 hlt0
  have HI : Aside0 (idxI p R = (idxF p R : Int)) := ⟨by rw [idxI, if_pos hlt0]⟩
  have HSP := Aside0.mk hsp
  generalize hi0 : idxF p R = i0 at HI HSP hlt0
  have hw0 : wrap64 ((i0 : Int) + 1) = ((i0 + 1 : Nat) : Int) := by unfold wrap64; omega
  clear hs1 hs2 hall hle hpi hsp hi0
  go_enter Tryz.func45, Tryz.ntmps45
  go_wp2_with (go_at_call 73; refine HIDX.out.mono ?_; rintro e w1 ⟨rfl, hb1⟩; have HB1 := Aside0.mk hb1; clear hb1; rw [HI.out])
  go_loopw [5, 6] (fun v5 v6 wr => ∃ (i j : Nat) (d : List Rd), i < j ∧ j ≤ R.length ∧ v5 = .int .i64 i ∧ v6 = .int .i64 j ∧ Aside0 (kRc.R 36 wr base ok (.slice (some ⟨gr, 0, none⟩) R.length c) d) ∧ Aside0 (d.drop j = R.drop j ∧ d.take i ++ (R.drop j).filter (fun r => !p r) = R.filter (fun r => !p r)) ∧ Aside0 (w.grownBy wr (some gr))) (fun _ v6 _ => R.length - (intOf v6).toNat)
  case atStart => exact ⟨i0, i0 + 1, R, by omega, by omega, rfl, by go_num, ⟨Kd.R_below HRC.out HB1.out⟩, ⟨rfl, HSP.out⟩, ⟨HB1.out.os, HB1.out.tape, HB1.out.output, HB1.out.size, fun k hk _ => HB1.out.block k hk⟩⟩
  case round =>
   clear hw0 hlt0 HI HIDX HSP HB1
   obtain ⟨i, j, d, hij, hj, rfl, rfl, HR, HD, HG⟩ := hrel
   have hdl := (Kd.R_reads' HR.out).1
   have HDL := Aside0.mk hdl
   clear hdl
   by_cases hlt : j < R.length
   ·
    have hbl : ((j : Nat) : Int) < (R.length : Int) := by omega
    have hbi : ((i : Nat) : Int) < (R.length : Int) := by omega
    obtain ⟨cc, hcl, hM, hcc, hfr⟩ := Kd.R_elem HR.out zRd (j : Int) (by omega) (by omega)
    rw [Int.toNat_natCast] at hM hcc hfr
    obtain ⟨hok, v, rfl, hMR⟩ := hM
    have hdj : d.getD j zRd = R[j] := by
     have := congrArg (fun l => l[0]?) HD.out.1
     simp only [List.getElem?_drop, Nat.add_zero, List.getElem?_eq_getElem hlt] at this
     rw [List.getD_eq_getElem?_getD, this]
     rfl
    rw [hdj] at hok hMR hcc hcl
    have hst : R.drop j = R[j] :: R.drop (j + 1) := List.drop_eq_getElem_cons hlt
    have hpj : p R[j] = decide (R[j].x.fin < t) := by rw [HP.out]
    obtain ⟨x, hx⟩ : ∃ x, x = R[j] := ⟨_, rfl⟩
    rw [← hx] at hok hMR hcc hcl hst hpj
    have hrow : wr.rangeAt gr (j * 40) (x.x.cells v).toList := fun q u hu => hcc q u hu
    have hs := Rc.size hok v
    have h1c : (x.x.cells v).all (·.oneCell') = true := Rc.ones x.x (by obtain ⟨A, c, rfl⟩ := Kd.R_slice hMR; rfl)
    obtain ⟨cs, hcs⟩ : ∃ cs, cs = x.x.cells v := ⟨_, rfl⟩
    rw [← hcs] at hrow hs h1c
    have HCS := Aside0.mk hcs
    have HROW := Aside0.mk hrow
    have HOK := Aside0.mk hok
    have HST := Aside0.mk hst
    have HPJ := Aside0.mk hpj
    have HMR := Aside0.mk hMR
    have H1C := Aside0.mk h1c
    have hw : wrap64 ((j : Int) + 1) = (j : Int) + 1 := by unfold wrap64; omega
    have hwi : wrap64 ((i : Int) + 1) = (i : Int) + 1 := by unfold wrap64; omega
    clear hok hMR hcc hcl hfr hdj hx hrow hst hpj hcs h1c
    go_wp2_with (refine wpList_load_mid rfl 36 (.tmp 24) rfl gr (j * 40) rfl cs.toList _ HROW.out hu36 rfl (by rw [Array.length_toList, hs]; kernel_rfl) (Aside0.out ?_))
    refine ⟨?_⟩
    go_wp2_with (refine wpList_store_rowTo rfl 36 (.tmp 7) (.tmp 25) rfl rfl wr.heap.size cs rfl rfl 36 z36 (blk_new wr (.cells z36 36)) (by rw [hs]; kernel_rfl) (by rw [hs]; rfl) H1C.out (Aside0.out ?_))
    refine ⟨?_⟩
    have HW : Aside0 (((wr.alloc (.cells z36 36)).setRow wr.heap.size cs).heap[wr.heap.size]? = some (.cells cs 36 (0, 0)) ∧ Below wr.heap.size wr ((wr.alloc (.cells z36 36)).setRow wr.heap.size cs)) :=
     ⟨blk_setRow (blk_new wr _), below_setRow (below_alloc (Below.refl _ _) _) (Nat.le_refl _) _⟩
    obtain ⟨W1, hW1⟩ : ∃ W1, W1 = (wr.alloc (.cells z36 36)).setRow wr.heap.size cs := ⟨_, rfl⟩
    rw [← hW1] at HW
    unfold z36 at hW1
    rw [← hW1]
    clear hW1
    refine wpList_nil ?_
    have hgt : W1.cell? ⟨tb, 0, none⟩ = some (.int .i64 t) := (World.cell?_of_block (w := w) ((HW.out.2.block tb (Nat.lt_of_lt_of_le HTB.out HG.out.size)).trans (HG.out.block tb HTB.out (fun e => HTG.out (Option.some.inj e))))).trans HT.out
    have HGT := Aside0.mk hgt
    clear hgt
    go_wp2_with (refine wpList_load_row rfl 36 (.tmp 7) rfl wr.heap.size rfl 36 cs (0, 0) _ HW.out.1 hu36 rfl (by rw [hs]; kernel_rfl) (Aside0.out ?_))
    refine ⟨?_⟩
    go_wp2_with fail
    refine (HCS.out ▸ cut1_walk x.x HOK.out v tb t W1 HGT.out).mono ?_
    rintro e w2 ⟨rfl, hb2⟩
    have HB2 := Aside0.mk (below_step HW.out.2 hb2)
    have HBX := Aside0.mk (blk_below HW.out.1 hb2)
    have HR2 := Aside0.mk (Kd.R_below HR.out HB2.out)
    rw [← HPJ.out]
    cases hpx : p x with
    | true =>
     have HPX := Aside0.mk hpx
     clear hpx hb2
     go_wp2_with fail
     go_roundw
     case rel =>
      repeat apply Exists.intro
      refine ⟨⟨i, j + 1, d, by omega, by omega, rfl, rfl, HR2, ⟨by have := congrArg (List.drop 1) HD.out.1; rwa [List.drop_drop, List.drop_drop] at this, by rw [← HD.out.2, HST.out, List.filter_cons, if_neg (by simp [HPX.out])]⟩, ⟨HG.out.trans ⟨HB2.out.os, HB2.out.tape, HB2.out.output, HB2.out.size, fun k hk _ => HB2.out.block k hk⟩⟩⟩, ?_⟩
      rfl
     case measure => simp [intOf, hw]; omega
    | false =>
     have HPX := Aside0.mk hpx
     obtain ⟨ci, hcl, _, hcc, hfr⟩ := Kd.R_elem HR2.out zRd (i : Int) (by omega) (by omega)
     have hM2 : kRc.M w2 base (fun k => ok k ∧ k ≠ gr) x (ci.take 0 ++ cs.toList ++ ci.drop (0 + cs.toList.length)) := by
      rw [List.take_zero, List.nil_append, List.drop_of_length_le (by rw [hcl, Array.length_toList, hs]; exact Nat.le_refl _), List.append_nil, HCS.out]
      exact ⟨HOK.out, v, rfl, Kd.R_below HMR.out HB2.out⟩
     have hseg := Kd.R_seg HR2.out (i : Int) (by omega) (by omega) (seg := cs.toList) (j := 0) hcl hcc (by rw [Array.length_toList, hs]; exact Nat.le_refl _) hM2 (fun _ h => h)
     rw [Int.toNat_natCast] at hcc hfr hseg
     have hth : w2.there gr (i * 40) cs.size := fun q hq => put_there hcl hcc hfr q (by rw [← hs]; exact hq)
     have HSEG := Aside0.mk hseg
     have HTH := Aside0.mk hth
     clear hpx hb2 hM2 hseg hcl hcc hfr hth
     go_wp2_with (refine wpList_load_row rfl 36 (.tmp 7) rfl wr.heap.size rfl 36 cs (0, 0) _ HBX.out hu36 rfl (by rw [hs]; kernel_rfl) (Aside0.out ?_))
     refine ⟨?_⟩
     go_wp2_with (refine wpList_store_mid rfl 36 (.tmp 33) (.tmp 32) rfl gr (i * 40) cs rfl rfl HTH.out (by rw [hs]; kernel_rfl) H1C.out (Aside0.out ?_))
     refine ⟨?_⟩
     have HS2 : Aside0 (kRc.R 36 (w2.setCells gr (i * 40) cs.toList) base ok (.slice (some ⟨gr, 0, none⟩) R.length c) (d.set i x) ∧ w2.grownBy (w2.setCells gr (i * 40) cs.toList) (some gr)) := HSEG
     generalize w2.setCells gr (i * 40) cs.toList = W3 at HS2 ⊢
     refine wpList_nil ?_
     go_wp2_with fail
     go_roundw
     case rel =>
      repeat apply Exists.intro
      refine ⟨⟨i + 1, j + 1, d.set i x, by omega, by omega, rfl, rfl, ⟨HS2.out.1⟩, ⟨by rw [List.drop_set_of_lt (by omega)]; have := congrArg (List.drop 1) HD.out.1; rwa [List.drop_drop, List.drop_drop] at this, by rw [← HD.out.2, HST.out, List.filter_cons, if_pos (by simp [HPX.out]), List.take_succ_eq_append_getElem (by rw [List.length_set, ← HDL.out]; omega), List.getElem_set_self, List.take_set_of_le (Nat.le_refl _), List.append_assoc]; rfl⟩, ⟨((HG.out.trans ⟨HB2.out.os, HB2.out.tape, HB2.out.output, HB2.out.size, fun k hk _ => HB2.out.block k hk⟩)).trans HS2.out.2⟩⟩, ?_⟩
      rfl
     case measure => simp [intOf, hw]; omega
   ·
    obtain rfl : j = R.length := by omega
    have hz : ¬ (R.length : Int) < (R.length : Int) := by omega
    have hic : (i : Int) ≤ (c : Int) := by have := HLC.out; omega
    have hil : (i : Int) ≤ (R.length : Int) := by omega
    obtain ⟨w3, hcl, hR3, hg3⟩ := clear36 HR.out i (c - i) (by omega)
    have HR3 := Aside0.mk (And.intro hR3 hg3)
    have HF : Aside0 (d.take i = R.filter fun r => !p r) := ⟨by have := HD.out.2; rwa [List.drop_of_length_le (Nat.le_refl _), List.filter_nil, List.append_nil] at this⟩
    clear hR3 hg3
    go_wp2
    go_ret
    exact ⟨i, rfl, by rw [← HF.out]; exact HR3.out.1, HG.out.trans HR3.out.2⟩
end Go.Proofs.YtefeibndnghejaaGreatDoor.Pr
end
