import Derived.Test.YtefeibndnghejaaGreatDoorJp17
import Derived.Test.YtefeibndnghejaaGreatDoorJp21
section
set_option linter.unusedVariables false
set_option linter.unusedSimpArgs false
namespace Go.Proofs.YtefeibndnghejaaGreatDoor.Pr
open Go.RowKit Go.Proofs.YtefeibndnghejaaGreatDoorW.PrintWords Go.Proofs.YtefeibndnghejaaGreatDoorW.PrintLast Go.Proofs.YtefeibndnghejaaGreatDoorW.PrintMore
theorem rnew_some (most : Int) (w : World) (h1 : 1 ≤ most) (h2 : most ≤ 20000) :
  Calls Tryz.prog 35 #[.int .i64 most] w fun e w' => e = .returned (.pointer (some ⟨w.heap.size, 0, none⟩)) ∧ w' = w.alloc (.cells (rsC most (.slice none 0 0) 0) 31) := by
 have b0 : decide (most < 1) = false := decide_eq_false (by omega)
 have b1 : decide (20000 < most) = false := decide_eq_false (by omega)
 go_enter Tryz.func35, Tryz.ntmps35
 go_wp2
 go_ret
 exact ⟨rfl, rfl⟩
theorem rnew_none (most : Int) (w : World) (h : most < 1 ∨ 20000 < most) :
  Calls Tryz.prog 35 #[.int .i64 most] w fun e w' => e = .returned (.pointer none) ∧ w' = w := by
 by_cases h1 : most < 1
 ·
  have b0 : decide (most < 1) = true := decide_eq_true h1
  go_enter Tryz.func35, Tryz.ntmps35
  go_wp2
  go_ret
  exact ⟨rfl, rfl⟩
 ·
  have b0 : decide (most < 1) = false := decide_eq_false h1
  have b1 : decide (20000 < most) = true := decide_eq_true (by omega)
  go_enter Tryz.func35, Tryz.ntmps35
  go_wp2
  go_ret
  exact ⟨rfl, rfl⟩
theorem over_walk (x : Rc) (v : Value) (t : Int) (w : World) : Calls Tryz.prog 74 #[.agg (x.cells v), .int .i64 t] w fun e w' => e = .returned (.bool (decide (x.fin < t))) ∧ Below w.heap.size w w' := by
 obtain ⟨cs, hcs⟩ : ∃ cs, cs = x.cells v := ⟨_, rfl⟩
 have h0 : cs[0]? = some (.int .i64 x.kd) := by rw [hcs]; rfl
 have h3 : cs[3]? = some (.int .i64 x.tm) := by rw [hcs]; rfl
 have h4 : cs[4]? = some (.int .i64 x.tw) := by rw [hcs]; rfl
 rw [← hcs]
 clear hcs
 have c0 := (blk_cell (blk_new w (.cells cs 36)) 0).trans h0
 have c3 := (blk_cell (blk_new w (.cells cs 36)) 3).trans h3
 have c4 := (blk_cell (blk_new w (.cells cs 36)) 4).trans h4
 clear h0 h3 h4
 by_cases hk : x.kd = 3
 ·
  have b1 : (x.kd == 3) = true := by simp [hk]
  have hf : x.fin = x.tw := if_pos hk
  rw [hf]
  clear hf
  generalize x.kd = kd at *
  go_enter Tryz.func74, Tryz.ntmps74
  go_wp2
  go_ret
  exact ⟨rfl, below_alloc (Below.refl _ _) _⟩
 ·
  have b1 : (x.kd == 3) = false := by simp [hk]
  have hf : x.fin = x.tm := if_neg hk
  rw [hf]
  clear hf
  generalize x.kd = kd at *
  go_enter Tryz.func74, Tryz.ntmps74
  go_wp2
  go_ret
  exact ⟨rfl, below_alloc (Below.refl _ _) _⟩
set_option maxRecDepth 100000 in
set_option maxHeartbeats 4000000 in
theorem rlen_walk (g : Nat) (most ver kind : Int) (R : List Rd) (F : Nat → Prop) (w : World) (base : Nat) (l : Value) (hS : RsP w base F g most ver R l) (hR : R.length < 1048576) :
  Calls Tryz.prog 51 #[.pointer (some ⟨g, 0, none⟩), .int .i64 kind] w fun e w' => e = .returned (.int .i64 (countK kind R)) ∧ Drawn0 w w' := by
 obtain ⟨A, c, rfl⟩ := Kd.R_slice hS.rec_
 have hl1 := (blk_cell hS.blk 1).trans (show _ = some (.slice A R.length c) from rfl)
 have hC := (Kd.R_reads' hS.rec_).2.2
 have HC := Aside0.mk hC
 have HRC := Aside0.mk hS.rec_
 have hmx : R.length ≤ 9223372036854775807 := by omega
 clear hS hC
 go_enter Tryz.func51, Tryz.ntmps51
 go_wp2
 go_loopw [5, 6] (fun v5 v6 wr => ∃ j : Nat, j ≤ R.length ∧ v5 = .int .i64 (countK kind (R.take j)) ∧ v6 = .int .i64 j ∧ wr = w) (fun _ v6 _ => R.length - (intOf v6).toNat)
 case atStart => exact ⟨0, Nat.zero_le _, rfl, rfl, rfl⟩
 case round =>
  obtain ⟨j, hj, rfl, rfl, rfl⟩ := hrel
  by_cases hlt : j < R.length
  ·
   obtain ⟨ad, B, cb, rfl, hok, hcell, hcb, hCa⟩ := rec_at HC.out j hlt
   obtain ⟨gr, rfl⟩ := R_addr HRC.out
   have hbl : ((j : Nat) : Int) < (R.length : Int) := by omega
   have htk : countK kind (R.take (j + 1)) = countK kind (R.take j) + if kind = 0 ∨ R[j].x.kd = kind then 1 else 0 := by rw [List.take_succ_eq_append_getElem hlt, countK_snoc]
   have d0 : wr.cell? ⟨gr, j * 40, none⟩ = some (.int .i64 R[j].x.kd) := by
    have h1 := hcell 0 _ rfl
    rwa [Addr.add_mid, Nat.zero_add] at h1
   obtain ⟨x, hxe⟩ : ∃ x, x = R[j] := ⟨_, rfl⟩
   rw [← hxe] at htk d0
   have HTK := Aside0.mk htk
   have hcl : countK kind (R.take j) < 1048576 := by
    have h1 := countK_le kind (R.take j)
    rw [List.length_take] at h1
    omega
   have hw : wrap64 ((j : Int) + 1) = (j : Int) + 1 := by unfold wrap64; omega
   have hwc : wrap64 ((countK kind (R.take j) : Int) + 1) = (countK kind (R.take j) : Int) + 1 := by unfold wrap64; omega
   clear hcell hCa hcb hok hxe htk
   by_cases hz : kind = 0
   ·
    have b1 : (kind == 0) = true := by simp [hz]
    have HN : Aside0 (countK kind (R.take (j + 1)) = countK kind (R.take j) + 1) := ⟨by rw [HTK.out, if_pos (.inl hz)]⟩
    generalize countK kind (R.take j) = cn at *
    clear hz
    go_wp2
    go_roundw
    case rel => exact ⟨j + 1, by omega, by rw [HN.out]; simp [hwc], by simp [hw], trivial⟩
    case measure => simp [intOf, hw]; omega
   ·
    have b1 : (kind == 0) = false := by simp [hz]
    by_cases hx : x.x.kd = kind
    ·
     have b2 : (x.x.kd == kind) = true := by simp [hx]
     have HN : Aside0 (countK kind (R.take (j + 1)) = countK kind (R.take j) + 1) := ⟨by rw [HTK.out, if_pos (.inr hx)]⟩
     generalize countK kind (R.take j) = cn at *
     generalize x.x.kd = xk at *
     clear hz hx
     go_wp2
     go_roundw
     case rel => exact ⟨j + 1, by omega, by rw [HN.out]; simp [hwc], by simp [hw], trivial⟩
     case measure => simp [intOf, hw]; omega
    ·
     have b2 : (x.x.kd == kind) = false := by simp [hx]
     have HN : Aside0 (countK kind (R.take (j + 1)) = countK kind (R.take j)) := ⟨by rw [HTK.out, if_neg (fun h => h.elim hz hx), Nat.add_zero]⟩
     generalize countK kind (R.take j) = cn at *
     generalize x.x.kd = xk at *
     clear hz hx
     go_wp2
     go_roundw
     case rel => exact ⟨j + 1, by omega, by rw [HN.out], by simp [hw], trivial⟩
     case measure => simp [intOf, hw]; omega
  ·
   obtain rfl : j = R.length := by omega
   have hz : ¬ (R.length : Int) < (R.length : Int) := by omega
   have HT := Aside0.mk (show R.take R.length = R from List.take_length)
   go_wp2
   go_ret
   exact ⟨rfl, ⟨0, rfl⟩⟩
def RCutPost (base : Nat) (F : Nat → Prop) (g : Nat) (most ver : Int) (R : List Rd) (t : Int) (w : World) (e : Ending) (w' : World) : Prop :=
  e = .returned (.int .i64 ((R.length - (keptR t R).length : Nat) : Int)) ∧ Chg (fun q => F q ∨ q = g) w w' ∧ Rs w' base (NewF F w w') g most (if (keptR t R).length < R.length then ver + 1 else ver) (keptR t R)
theorem keptR_snoc (t : Int) (R : List Rd) (r : Rd) : keptR t (R ++ [r]) = keptR t R ++ if decide (r.x.fin < t) then [] else [r] := by
 unfold keptR
 rw [List.filter_append]
 by_cases h : r.x.fin < t
 ·
  simp [h]
 ·
  simp [h]
set_option maxRecDepth 100000 in
set_option maxHeartbeats 8000000 in
theorem rcut_walk (g : Nat) (most ver t : Int) (R : List Rd) (F : Nat → Prop) (w : World) (base : Nat) (l : Value) (hS : RsP w base F g most ver R l) (hR : R.length < 1048576) (hv : -4611686018427387904 < ver ∧ ver < 4611686018427387904) (hbase : base ≤ w.heap.size) :
  Calls Tryz.prog 49 #[.pointer (some ⟨g, 0, none⟩), .int .i64 t] w (RCutPost base F g most ver R t w) := by
 have hu36 := Tryz.underlying36
 obtain ⟨A, c, rfl⟩ := Kd.R_slice hS.rec_
 have HS := Aside0.mk hS
 have HRL := Aside0.mk hR
 have HV := Aside0.mk hv
 have HBS := Aside0.mk hbase
 have hRl := hR
 clear hS hR hv hbase
 go_enter Tryz.func49, Tryz.ntmps49
 go_wp2
 go_loopw [5, 6] (fun v5 v6 wr => ∃ j : Nat, j ≤ R.length ∧ v6 = .int .i64 j ∧ Aside0 (kRc.R 36 wr base (fun q => F q ∨ w.heap.size ≤ q) v5 (keptR t (R.take j)) ∧ ∀ q, v5.ownBlock = some q → w.heap.size ≤ q) ∧ Aside0 (Below w.heap.size w wr)) (fun _ v6 _ => R.length - (intOf v6).toNat)
 case atStart => exact ⟨0, Nat.zero_le _, rfl, ⟨Kd.R_nil _ _ _ _ _, fun q e => by cases e⟩, ⟨Below.refl _ _⟩⟩
 case round =>
  obtain ⟨j, hj, rfl, HK, HB⟩ := hrel
  have hsr := HS.out.kept HB.out
  have hl1 := (blk_cell hsr.blk 1).trans (show _ = some (.slice A R.length c) from rfl)
  obtain ⟨A5, c5, hv5⟩ := Kd.R_slice HK.out.1
  subst hv5
  by_cases hlt : j < R.length
  ·
   obtain ⟨gr, cur, ok', rfl, hgb, hgh, _, hgs, hok', hrows⟩ := row_cells hsr.rec_ (by omega)
   have hbl : ((j : Nat) : Int) < (R.length : Int) := by omega
   obtain ⟨x, cc, hxe, hM, hcc⟩ := hrows j hlt
   obtain ⟨hok, v, rfl, hMR⟩ := hM
   have hxj : x = R[j] := by rw [List.getElem?_eq_getElem hlt] at hxe; exact (Option.some.inj hxe).symm
   have hsx := Rc.size hok v
   have hrow : wr.rangeAt gr (j * 40) (x.x.cells v).toList := fun q u hu => by
    have hq : q < 40 := by have := (List.getElem?_eq_some_iff.1 hu).1; rw [Array.length_toList, hsx] at this; exact this
    exact (blk_cell hgh _).trans ((hcc q hq).trans hu)
   have htk : keptR t (R.take (j + 1)) = keptR t (R.take j) ++ if decide (x.x.fin < t) then [] else [x] := by rw [List.take_succ_eq_append_getElem hlt, keptR_snoc, hxj]
   have h1c : (x.x.cells v).all (·.oneCell') = true := Rc.ones x.x (by obtain ⟨A, c, rfl⟩ := Kd.R_slice hMR; rfl)
   obtain ⟨ds, hds⟩ : ∃ ds, ds = x.x.cells v := ⟨_, rfl⟩
   rw [← hds] at hrow hsx h1c
   have HDS := Aside0.mk hds
   have HROW := Aside0.mk hrow
   have HOK := Aside0.mk hok
   have HTK := Aside0.mk htk
   have HMR := Aside0.mk (Kd.R_mono hMR hok')
   have HSR := Aside0.mk hsr
   have hw : wrap64 ((j : Int) + 1) = (j : Int) + 1 := by unfold wrap64; omega
   clear hrows hxe hcc hds hrow hok htk hMR hsr hok' hgh hgs hgb hxj
   go_wp2_with (refine wpList_load_mid rfl 36 (.tmp 22) rfl gr (j * 40) rfl ds.toList _ HROW.out hu36 rfl (by rw [Array.length_toList, hsx]; kernel_rfl) (Aside0.out ?_))
   refine ⟨?_⟩
   go_wp2_with fail
   refine (HDS.out ▸ over_walk x.x v t wr).mono ?_
   rintro e w2 ⟨rfl, hb2⟩
   have HB2 := Aside0.mk hb2
   have hl2 := (blk_cell (blk_below HSR.out.blk hb2) 1).trans (show _ = some (.slice (some ⟨gr, 0, none⟩) R.length c) from rfl)
   cases hov : decide (x.x.fin < t) with
   | true =>
    have HNX : Aside0 (keptR t (R.take (j + 1)) = keptR t (R.take j)) := ⟨by rw [HTK.out, hov]; simp⟩
    clear hov hb2
    go_wp2
    go_roundw
    case rel => exact ⟨j + 1, by omega, by simp [hw], ⟨by rw [HNX.out]; exact Kd.R_below HK.out.1 HB2.out, HK.out.2⟩, ⟨below_step HB.out HB2.out⟩⟩
    case measure => simp [intOf, hw]; omega
   | false =>
    have HNX : Aside0 (keptR t (R.take (j + 1)) = keptR t (R.take j) ++ [x]) := ⟨by rw [HTK.out, hov]; simp⟩
    have HROW2 : Aside0 (w2.rangeAt gr (j * 40) ds.toList) := ⟨fun q u hu => (hb2.cell (World.block_lt_of_cell? wr _ (HROW.out q u hu))).trans (HROW.out q u hu)⟩
    clear hov hb2
    go_wp2_with (refine wpList_load_mid rfl 36 (.tmp 33) rfl gr (j * 40) rfl ds.toList _ HROW2.out hu36 rfl (by rw [Array.length_toList, hsx]; kernel_rfl) (Aside0.out ?_))
    refine ⟨?_⟩
    refine wpList_buildRec 34 rfl rfl (some 35) rfl hsx rfl ?_
    go_wp2_with (((with_reducible refine gate_builtin (b := .append) (xs := #[.tmp 27, .tmp 35]) rfl ?_); at_builtin; refine Aside0.out ?_))
    refine ⟨?_⟩
    have hds2 : ds = ds.toList.toArray := by simp
    rw [hds2]
    refine Kd.R_append kRc (w0 := w) base rfl (.tmp 27) (.tmp 35) 29 36 (.agg z36) 128 rfl Tryz.underlying29 info36 rfl (show 0 < 40 from by decide) (by omega) (.slice A5 (keptR t (R.take j)).length c5) (keptR t (R.take j)) x ds.toList (fun q => F q ∨ w.heap.size ≤ q) F rfl rfl ⟨HOK.out, v, by rw [HDS.out], Kd.R_below HMR.out HB2.out⟩ (fun k hk => ⟨.inl hk, fun e => by have h1 := HK.out.2 _ e.symm; have h2 := (HS.out.lt k hk).2; omega⟩) (fun k hk => .inr (by have h1 := HB.out.size; have h2 := HB2.out.size; omega)) (Kd.R_below HK.out.1 HB2.out) ((below_step HB.out HB2.out).mono HBS.out) (by have h1 := HB.out.size; have h2 := HB2.out.size; have h3 := HBS.out; omega) (by have h1 := keptR_le t (R.take j); rw [List.length_take] at h1; have := HRL.out; omega) ?_
    intro v4 W4 hR4 hb4 hg4 hat4
    have HR4 := Aside0.mk hR4
    have HO4 : Aside0 (∀ q, v4.ownBlock = some q → w.heap.size ≤ q) := ⟨fun q hq => hat4.elim (fun e => HK.out.2 q (e ▸ hq)) (fun e => by obtain ⟨b, hb, hle⟩ := e; rw [hb] at hq; cases hq; have h1 := HB.out.size; have h2 := HB2.out.size; omega)⟩
    have HB4 : Aside0 (Below w.heap.size w W4) := ⟨(Chg.of_below (F := fun q => w.heap.size ≤ q) (below_step HB.out HB2.out)).trans (Chg.grown (F := fun q => w.heap.size ≤ q) hg4 (fun q hq => HK.out.2 q hq)) (fun q hq => .inl hq) |>.below (fun q hq => hq) (Nat.le_refl _)⟩
    clear hR4 hb4 hg4 hat4 hds2
    obtain ⟨A4, c4, hv4⟩ := Kd.R_slice HR4.out
    rw [List.length_append, List.length_singleton] at hv4
    subst hv4
    go_wp2
    go_roundw
    case rel => exact ⟨j + 1, by omega, by simp [hw], ⟨by rw [HNX.out]; exact HR4.out, HO4.out⟩, HB4⟩
    case measure => simp [intOf, hw]; omega
  ·
   obtain rfl : j = R.length := by omega
   have hz : ¬ (R.length : Int) < (R.length : Int) := by omega
   rw [List.take_length] at HK ⊢
   have hle := keptR_le t R
   obtain ⟨kl, hkl⟩ : ∃ kl, kl = (keptR t R).length := ⟨_, rfl⟩
   rw [← hkl] at HK hle ⊢
   have HKL := Aside0.mk hkl
   have f1 := blk_frozen hsr.blk 1
   have HSR := Aside0.mk hsr
   have HGL : Aside0 (g < w.heap.size ∧ ∀ q, F q → q < w.heap.size) := ⟨blk_lt HS.out.blk, fun q hq => (HS.out.lt q hq).2⟩
   clear hkl hsr hlt hj
   obtain ⟨W3, hW3⟩ : ∃ W3, W3 = wr.setCell ⟨g, 1, none⟩ (.slice A5 kl c5) := ⟨_, rfl⟩
   have hb3 : W3.heap[g]? = some (.cells (rsC most (.slice A5 kl c5) ver) 31 (0, 0)) := hW3 ▸ blk_set HSR.out.blk 1 _
   have hR3 : kRc.R 36 W3 base (fun q => F q ∨ w.heap.size ≤ q) (.slice A5 kl c5) (keptR t R) := hW3 ▸ Kd.R_set HK.out.1 HSR.out.blk (by decide) 1 _
   have hch3 : Chg (fun q => F q ∨ q = g) w W3 := hW3 ▸ ((Chg.of_below HB.out).trans (Chg.setCell (F := fun q => F q ∨ q = g) (.inr rfl) _) (fun q hq => .inl hq))
   have HB3 := Aside0.mk hb3
   have HR3 := Aside0.mk hR3
   have HC3 := Aside0.mk hch3
   have v2 := (blk_cell hb3 2).trans (show _ = some (.int .i64 ver) from rfl)
   have f2 := blk_frozen hb3 2
   have hv19 : wrap64 (ver + 1) = ver + 1 := IntWalk.wrap64_in _ (by have := HV.out; omega)
   clear hb3 hR3 hch3
   have fin : ∀ (W4 : World) (ver' : Int), W4.heap[g]? = some (.cells (rsC most (.slice A5 kl c5) ver') 31 (0, 0)) → kRc.R 36 W4 base (fun q => F q ∨ w.heap.size ≤ q) (.slice A5 kl c5) (keptR t R) → w.heap.size ≤ W4.heap.size → Rs W4 base (NewF F w W4) g most ver' (keptR t R) := fun W4 ver' h1 h2 h3 =>
    ⟨_, h1, Kd.R_mono (Kd.R_bound h2) (fun q hq => ⟨hq.1, hq.2.2.1⟩), fun e => e.1.elim HS.out.ng (fun e => by have := HGL.out.1; omega), HS.out.ge, fun q hq => ⟨hq.1.elim (fun e => (HS.out.lt q e).1) (fun e => Nat.le_trans HBS.out e), hq.2⟩, fun y hy => HS.out.fine y (keptR_mem hy)⟩
   have FIN := Aside0.mk fin
   clear fin
   by_cases hn : kl = R.length
   ·
    have hz2 : ¬ (0 : Int) < (R.length : Int) - (kl : Int) := by omega
    have HN := Aside0.mk hn
    clear hn
    go_upto_region 9 with (fail)
    rw [← hW3]
    clear hW3
    go_wp2
    go_ret
    refine ⟨by rw [← HKL.out, HN.out]; simp, HC3.out, ?_⟩
    rw [if_neg (by rw [← HKL.out, HN.out]; omega)]
    exact FIN.out W3 ver HB3.out HR3.out HC3.out.size
   ·
    have hz2 : (0 : Int) < (R.length : Int) - (kl : Int) := by omega
    have HN : Aside0 (kl < R.length) := ⟨by omega⟩
    clear hn
    go_upto_region 9 with (fail)
    rw [← hW3]
    clear hW3
    go_wp2
    go_ret
    have hc4 := HC3.out.trans (Chg.setCell (F := fun q => F q ∨ q = g) (p := ⟨g, 2, none⟩) (.inr rfl) (.int .i64 (ver + 1))) (fun q hq => .inl hq)
    refine ⟨by rw [← HKL.out]; refine congrArg _ ?_; show Value.int .i64 ((R.length : Int) - (kl : Int)) = _; rw [Int.natCast_sub (Nat.le_of_lt HN.out)], hc4, ?_⟩
    rw [if_pos (by rw [← HKL.out]; exact HN.out)]
    exact FIN.out _ (ver + 1) (blk_set HB3.out 2 _) (Kd.R_set HR3.out HB3.out (by decide) 2 _) hc4.size
end Go.Proofs.YtefeibndnghejaaGreatDoor.Pr
end
section
set_option linter.unusedVariables false
set_option linter.unusedSimpArgs false
namespace Go.Proofs.YtefeibndnghejaaGreatDoor.Pr
open Go.RowKit Go.Proofs.YtefeibndnghejaaGreatDoorW.PrintWords Go.Proofs.YtefeibndnghejaaGreatDoorW.PrintLast Go.Proofs.YtefeibndnghejaaGreatDoorW.PrintMore
def otlp_Same.T6 : Bool × List (List Nat × List Nat) := (true, [([], []), ([], []), ([0, 1], [0, 1]), ([2], [2]), ([], []), ([], []), ([4, 5], [4, 5]), ([6], [6]), ([3, 7], [3, 7]), ([8], [8])])
def otlp_Same.B6 : List Nat := [0, 0, 3, 7, 0, 0, 48, 112, 255, 511]
set_option maxRecDepth 100000 in
theorem otlp_Same.tab6 : rtab .any (opsOf Tryz.f19 6) = otlp_Same.T6 := by kernel_rfl
set_option maxRecDepth 100000 in
theorem otlp_Same.bits6 : waitsOk otlp_Same.T6.2 otlp_Same.B6 = true := by kernel_rfl
theorem rec_row {w : World} {base : Nat} {ok : Nat → Prop} {A : Option Addr} {n c : Nat} {R : List Rd} (h : kRc.R 36 w base ok (.slice A n c) R) (k : Nat) (hk : k < R.length) : ∃ g B cb, A = some ⟨g, 0, none⟩ ∧ R[k].x.ok ∧ w.rangeAt g (k * 40) (R[k].x.cells (.slice B R[k].a.length cb)).toList ∧ R[k].a.length ≤ cb ∧ Kd.C k85 w B R[k].a.length R[k].a := by
 have hn := (Kd.R_reads' h).1
 subst hn
 obtain ⟨ad, B, cb, rfl, hok, hcell, hcb, hCa⟩ := rec_at (Kd.R_reads' h).2.2 k hk
 obtain ⟨g, rfl⟩ := R_addr h
 exact ⟨g, B, cb, rfl, hok, fun j u hu => by have h1 := hcell j u hu; rwa [Addr.add_mid, Nat.zero_add] at h1, hcb, hCa⟩
set_option maxRecDepth 100000 in
set_option maxHeartbeats 4000000 in
theorem same_walk (kn : Nat) (v v' : Value) (R : List Rd) (w : World) (base base' : Nat) (ok ok' : Nat → Prop) (h : kRc.R 36 w base ok v R) (h' : kRc.R 36 w base' ok' v' R) (hsm : ∀ r ∈ R, belfryref04_Same.f kn r.a r.a = some true) :
  Calls Tryz.prog 19 #[v, v'] w fun e w' => e = .returned (.bool true) ∧ Below w.heap.size w w' := by
 obtain ⟨A, c, rfl⟩ := Kd.R_slice h
 obtain ⟨A', c', rfl⟩ := Kd.R_slice h'
 have hmx := Kd.C_max (Kd.R_reads' h).2.2
 have H := Aside0.mk h
 have H' := Aside0.mk h'
 have HSM := Aside0.mk hsm
 clear h h' hsm
 go_enter Tryz.func19, Tryz.ntmps19
 go_wp2
 go_loopw [5] (fun v5 wr => ∃ j : Nat, j ≤ R.length ∧ v5 = .int .i64 j ∧ Aside0 (Below w.heap.size w wr)) (fun v5 _ => R.length - (intOf v5).toNat)
 case atStart => exact ⟨0, Nat.zero_le _, rfl, ⟨Below.refl _ _⟩⟩
 case round =>
  obtain ⟨j, hj, rfl, HB⟩ := hrel
  by_cases hlt : j < R.length
  ·
   obtain ⟨g, B, cb, rfl, hok, hrow, hcb, hCa⟩ := rec_row H.out j hlt
   obtain ⟨g', B', cb', rfl, -, hrow', hcb', hCa'⟩ := rec_row H'.out j hlt
   have hsmx := HSM.out R[j] (List.getElem_mem hlt)
   have hbl : ((j : Nat) : Int) < (R.length : Int) := by omega
   obtain ⟨x, hxe⟩ : ∃ x, x = R[j] := ⟨_, rfl⟩
   rw [← hxe] at hok hrow hcb hCa hrow' hcb' hCa' hsmx
   have hs := Rc.size hok (.slice B x.a.length cb)
   have hs' := Rc.size hok (.slice B' x.a.length cb')
   obtain ⟨cs, hcs⟩ : ∃ cs, cs = x.x.cells (.slice B x.a.length cb) := ⟨_, rfl⟩
   obtain ⟨ds, hds⟩ : ∃ ds, ds = x.x.cells (.slice B' x.a.length cb') := ⟨_, rfl⟩
   rw [← hcs] at hrow hs
   rw [← hds] at hrow' hs'
   have HCS := Aside0.mk hcs
   have HDS := Aside0.mk hds
   have HROW := Aside0.mk hrow
   have HROW' := Aside0.mk hrow'
   have HCB := Aside0.mk hcb
   have HCB' := Aside0.mk hcb'
   have HCA := Aside0.mk hCa
   have HCA' := Aside0.mk hCa'
   have HOK := Aside0.mk hok
   have HSX := Aside0.mk hsmx
   have hw : wrap64 ((j : Int) + 1) = (j : Int) + 1 := by unfold wrap64; omega
   clear hok hrow hcb hCa hrow' hcb' hCa' hsmx hcs hds hxe
   go_upto_region 6 with (fail)
   refine start_ (n := 10) (S := fun w' => Below wr.heap.size wr w') (ds := [9]) #[false, false, false, false, false, false, false, false, false, false] (by kernel_rfl) rfl rfl (below_drew1 (Below.refl _ _)) (fun hHeld => ?_)
   refine with_tabW otlp_Same.tab6 otlp_Same.bits6 (fun HT_ HW_ => ?_)
   generalize wr.drew = W0 at hHeld ⊢
   refine pure_ (i := 0) (N := some 17) (v := ?_) (a' := ?_) #[true, false, false, false, false, false, false, false, false, false] rfl rfl (any_of HT_.out (by kernel_rfl)) (fun _ _ _ h => h) (Or.inl ⟨by rfl, ?_⟩) ?_ ?_
   rotate_left
   ·
    intro w'
    go_simp
    with_reducible rfl
   rotate_left
   ·
    simp only [Act.put, List.setIfInBounds_toArray, List.set_cons_zero, List.set_cons_succ, i64_w, i32_w]
    rfl
   refine pure_ (i := 1) (N := some 18) (v := ?_) (a' := ?_) #[true, true, false, false, false, false, false, false, false, false] rfl rfl (any_of HT_.out (by kernel_rfl)) (fun _ _ _ h => h) (Or.inl ⟨by rfl, ?_⟩) ?_ ?_
   rotate_left
   ·
    intro w'
    go_simp
    with_reducible rfl
   rotate_left
   ·
    simp only [Act.put, List.setIfInBounds_toArray, List.set_cons_zero, List.set_cons_succ, i64_w, i32_w]
    rfl
   refine pure_ (i := 2) (N := some 19) (v := ?_) (a' := ?_) #[true, true, true, false, false, false, false, false, false, false] rfl rfl (any_of HT_.out (by kernel_rfl)) (fun _ _ _ h => h) (Or.inl ⟨by rfl, ?_⟩) ?_ ?_
   rotate_left
   ·
    intro w'
    go_simp
    with_reducible rfl
   rotate_left
   ·
    simp only [Act.put, List.setIfInBounds_toArray, List.set_cons_zero, List.set_cons_succ, i64_w, i32_w]
    rfl
   refine take_ (i := 3) (N := some 20) (v := ?_) (a' := ?_) #[true, true, true, true, false, false, false, false, false, false] rfl rfl (take_ofW HT_.out HW_.out (by kernel_rfl)) (fun _ _ _ h => h) (Or.inl ⟨by rfl, ?_⟩) hHeld ?_ ?_
   rotate_left
   ·
    rintro w' hw
    refine exec_mid36 (x := .tmp 19) ?_ ?_ (i := j * 40) (fun q u hu => (hw.cell (World.block_lt_of_cell? wr _ ((HB.out.cell (World.block_lt_of_cell? w _ (HROW.out q u hu))).trans (HROW.out q u hu)))).trans ((HB.out.cell (World.block_lt_of_cell? w _ (HROW.out q u hu))).trans (HROW.out q u hu))) hs
    ·
     rfl
    ·
     rfl
   rotate_left
   ·
    simp only [Act.put, List.setIfInBounds_toArray, List.set_cons_zero, List.set_cons_succ, i64_w, i32_w]
    rfl
   refine pure_ (i := 4) (N := some 21) (v := ?_) (a' := ?_) #[true, true, true, true, true, false, false, false, false, false] rfl rfl (any_of HT_.out (by kernel_rfl)) (fun _ _ _ h => h) (Or.inl ⟨by rfl, ?_⟩) ?_ ?_
   rotate_left
   ·
    intro w'
    go_simp
    with_reducible rfl
   rotate_left
   ·
    simp only [Act.put, List.setIfInBounds_toArray, List.set_cons_zero, List.set_cons_succ, i64_w, i32_w]
    rfl
   refine pure_ (i := 5) (N := some 22) (v := ?_) (a' := ?_) #[true, true, true, true, true, true, false, false, false, false] rfl rfl (any_of HT_.out (by kernel_rfl)) (fun _ _ _ h => h) (Or.inl ⟨by rfl, ?_⟩) ?_ ?_
   rotate_left
   ·
    intro w'
    go_simp
    with_reducible rfl
   rotate_left
   ·
    simp only [Act.put, List.setIfInBounds_toArray, List.set_cons_zero, List.set_cons_succ, i64_w, i32_w]
    rfl
   refine pure_ (i := 6) (N := some 23) (v := ?_) (a' := ?_) #[true, true, true, true, true, true, true, false, false, false] rfl rfl (any_of HT_.out (by kernel_rfl)) (fun _ _ _ h => h) (Or.inl ⟨by rfl, ?_⟩) ?_ ?_
   rotate_left
   ·
    intro w'
    go_simp
    with_reducible rfl
   rotate_left
   ·
    simp only [Act.put, List.setIfInBounds_toArray, List.set_cons_zero, List.set_cons_succ, i64_w, i32_w]
    rfl
   refine take_ (i := 7) (N := some 24) (v := ?_) (a' := ?_) #[true, true, true, true, true, true, true, true, false, false] rfl rfl (take_ofW HT_.out HW_.out (by kernel_rfl)) (fun _ _ _ h => h) (Or.inl ⟨by rfl, ?_⟩) hHeld ?_ ?_
   rotate_left
   ·
    rintro w' hw
    refine exec_mid36 (x := .tmp 23) ?_ ?_ (i := j * 40) (fun q u hu => (hw.cell (World.block_lt_of_cell? wr _ ((HB.out.cell (World.block_lt_of_cell? w _ (HROW'.out q u hu))).trans (HROW'.out q u hu)))).trans ((HB.out.cell (World.block_lt_of_cell? w _ (HROW'.out q u hu))).trans (HROW'.out q u hu))) hs'
    ·
     rfl
    ·
     rfl
   rotate_left
   ·
    simp only [Act.put, List.setIfInBounds_toArray, List.set_cons_zero, List.set_cons_succ, i64_w, i32_w]
    rfl
   refine one_ (i := 8) (N := some 25) #[true, true, true, true, true, true, true, true, true, false] rfl rfl (one_of HT_.out (by kernel_rfl)) (by decide) (fun K hK => ?_)
   refine goes_ Tryz.func12 (by kernel_rfl) rfl #[.agg cs, .agg ds] (by rfl) rfl rfl (by (try simp only [List.map_toArray, List.map_cons, List.map_nil]); first | done | rfl) ?_
   refine (HCS.out ▸ HDS.out ▸ one_walk kn x.x HOK.out B B' cb cb' x.a W0 (Kd.C_below HCA.out (HB.out.trans (hHeld.mono HB.out.size))) HCB.out (Kd.C_below HCA'.out (HB.out.trans (hHeld.mono HB.out.size))) HCB'.out HSX.out).mono ?_
   rintro e w2 ⟨rfl, hd⟩
   refine ⟨_, rfl, ?_⟩
   refine hK.out _ _ (below_step hHeld hd) (fun hHeld => ?_)
   clear hK K hd
   refine norm_ (a' := ?_) ?_ ?_
   rotate_left
   ·
    show Act.put _ (some 25) _ = _
    simp only [Act.put, List.setIfInBounds_toArray, List.set_cons_zero, List.set_cons_succ, i64_w, i32_w]
    rfl
   refine pure_ (i := 9) (N := some 26) (v := ?_) (a' := ?_) #[true, true, true, true, true, true, true, true, true, true] rfl rfl (any_of HT_.out (by kernel_rfl)) (fun _ _ _ h => h) (Or.inl ⟨by rfl, ?_⟩) ?_ ?_
   rotate_left
   ·
    intro w'
    go_simp
    with_reducible rfl
   rotate_left
   ·
    simp only [Act.put, List.setIfInBounds_toArray, List.set_cons_zero, List.set_cons_succ, i64_w, i32_w]
    rfl
   refine done_ (done_of HT_.out (by kernel_rfl)) ?_
   have HBN := Aside0.mk (HB.out.trans (hHeld.mono HB.out.size))
   clear hHeld
   go_wp2
   go_roundw
   case rel => exact ⟨j + 1, by omega, by simp [hw], HBN⟩
   case measure => simp [intOf, hw]; omega
  ·
   obtain rfl : j = R.length := by omega
   have hz : ¬ (R.length : Int) < (R.length : Int) := by omega
   go_wp2
   go_ret
   exact ⟨rfl, HB.out⟩
end Go.Proofs.YtefeibndnghejaaGreatDoor.Pr
end
section
set_option linter.unusedVariables false
set_option linter.unusedSimpArgs false
namespace Go.Proofs.YtefeibndnghejaaGreatDoor.Pr
open Go.RowKit Go.Proofs.YtefeibndnghejaaGreatDoorW.PrintWords Go.Proofs.YtefeibndnghejaaGreatDoorW.PrintLast Go.Proofs.YtefeibndnghejaaGreatDoorW.PrintMore
def law_alike.T2 : Bool × List (List Nat × List Nat) := (true, [([], []), ([0], [0]), ([1], [1]), ([2], [2]), ([2], [2]), ([4, 2], [2, 4]), ([5, 2], [2, 5]), ([6, 2], [2, 6]), ([3, 7, 2, 2], [2, 3, 7]), ([8, 2], [2, 8]), ([2, 9], [2, 9]), ([10, 8], [10]), ([11], [11]), ([12, 11, 11], [11, 12]), ([11], [11]), ([14, 11], [11, 14]), ([15, 11], [11, 15]), ([16, 11], [11, 16]), ([13, 17, 11], [11, 13, 17]), ([11, 18], [11, 18])])
def law_alike.B2 : List Nat := [0, 1, 3, 7, 7, 23, 55, 119, 255, 511, 1023, 2047, 4095, 8191, 4095, 20479, 53247, 118783, 262143, 524287]
set_option maxRecDepth 100000 in
theorem law_alike.tab2 : rtab .any (opsOf Tryz.f21 2) = law_alike.T2 := by kernel_rfl
set_option maxRecDepth 100000 in
theorem law_alike.bits2 : waitsOk law_alike.T2.2 law_alike.B2 = true := by kernel_rfl
set_option maxRecDepth 100000 in
set_option maxHeartbeats 8000000 in
theorem alike_walk (kn : Nat) (g g' : Nat) (most ver most' : Int) (R : List Rd) (F F' : Nat → Prop) (w : World) (base base' : Nat) (l' : Value) (hS : St w base F g most ver R) (hT : RsP w base' F' g' most' ver R l') (hsm : ∀ r ∈ R, belfryref04_Same.f kn r.a r.a = some true) (hR : R.length < 1048576) :
  Calls Tryz.prog 21 #[.pointer (some ⟨g, 0, none⟩), .pointer (some ⟨g', 0, none⟩)] w fun e w' => e = .returned (.bool true) ∧ Below w.heap.size w w' := by
 obtain ⟨l, m1, m2, FR, FM, F1, F2, hP⟩ := hS
 have hla : ∀ r ∈ R, r.a.length < 4398046511104 := fun r hr => by have := (hP.fine r hr).al; omega
 have HP := Aside0.mk hP
 have HT := Aside0.mk hT
 have HLA := Aside0.mk hla
 have HSM := Aside0.mk hsm
 have HRL := Aside0.mk hR
 clear hP hT hla hsm hR
 go_enter Tryz.func21, Tryz.ntmps21
 go_upto_region 2 with (go_at_call 18; refine (all_walk g most ver l m1 m2 R base FR w HP.out.mp.blk HP.out.rec_ HP.out.fine HRL.out).mono ?_; rintro e w1 ⟨v1, rfl, hR1, hb1⟩; have HR1 := Aside0.mk hR1; have HB1 := Aside0.mk hb1; have HT1 := Aside0.mk (HT.out.kept hb1); have HG1 := Aside0.mk (blk_below HP.out.mp.blk hb1); clear hR1 hb1)
 refine start_ (n := 20) (S := fun w' => Below w1.heap.size w1 w') (ds := [19]) #[false, false, false, false, false, false, false, false, false, false, false, false, false, false, false, false, false, false, false, false] (by kernel_rfl) rfl rfl (below_drew1 (Below.refl _ _)) (fun hHeld => ?_)
 refine with_tabW law_alike.tab2 law_alike.bits2 (fun HT_ HW_ => ?_)
 generalize w1.drew = W0 at hHeld ⊢
 refine pure_ (i := 0) (N := some 13) (v := ?_) (a' := ?_) #[true, false, false, false, false, false, false, false, false, false, false, false, false, false, false, false, false, false, false, false] rfl rfl (any_of HT_.out (by kernel_rfl)) (fun _ _ _ h => h) (Or.inl ⟨by rfl, ?_⟩) ?_ ?_
 rotate_left
 ·
  intro w'
  go_simp
  with_reducible rfl
 rotate_left
 ·
  simp only [Act.put, List.setIfInBounds_toArray, List.set_cons_zero, List.set_cons_succ, i64_w, i32_w]
  rfl
 refine pure_ (i := 1) (N := some 14) (v := ?_) (a' := ?_) #[true, true, false, false, false, false, false, false, false, false, false, false, false, false, false, false, false, false, false, false] rfl rfl (any_of HT_.out (by kernel_rfl)) (fun _ _ _ h => h) (Or.inl ⟨by rfl, ?_⟩) ?_ ?_
 rotate_left
 ·
  intro w'
  go_simp
  with_reducible rfl
 rotate_left
 ·
  simp only [Act.put, List.setIfInBounds_toArray, List.set_cons_zero, List.set_cons_succ, i64_w, i32_w]
  rfl
 refine pure_ (i := 2) (N := some 15) (v := ?_) (a' := ?_) #[true, true, true, false, false, false, false, false, false, false, false, false, false, false, false, false, false, false, false, false] rfl rfl (any_of HT_.out (by kernel_rfl)) (fun _ _ _ h => h) (Or.inl ⟨by rfl, ?_⟩) ?_ ?_
 rotate_left
 ·
  intro w'
  go_simp
  with_reducible rfl
 rotate_left
 ·
  simp only [Act.put, List.setIfInBounds_toArray, List.set_cons_zero, List.set_cons_succ, i64_w, i32_w]
  rfl
 refine pure_ (i := 3) (N := some 16) (v := ?_) (a' := ?_) #[true, true, true, true, false, false, false, false, false, false, false, false, false, false, false, false, false, false, false, false] rfl rfl (any_of HT_.out (by kernel_rfl)) (fun _ _ _ h => h) (Or.inl ⟨by rfl, ?_⟩) ?_ ?_
 rotate_left
 ·
  intro w'
  go_simp
  with_reducible rfl
 rotate_left
 ·
  simp only [Act.put, List.setIfInBounds_toArray, List.set_cons_zero, List.set_cons_succ, i64_w, i32_w]
  rfl
 refine pure_ (i := 4) (N := some 17) (v := ?_) (a' := ?_) #[true, true, true, true, true, false, false, false, false, false, false, false, false, false, false, false, false, false, false, false] rfl rfl (any_of HT_.out (by kernel_rfl)) (fun _ _ _ h => h) (Or.inl ⟨by rfl, ?_⟩) ?_ ?_
 rotate_left
 ·
  intro w'
  go_simp
  with_reducible rfl
 rotate_left
 ·
  simp only [Act.put, List.setIfInBounds_toArray, List.set_cons_zero, List.set_cons_succ, i64_w, i32_w]
  rfl
 refine pure_ (i := 5) (N := some 18) (v := ?_) (a' := ?_) #[true, true, true, true, true, true, false, false, false, false, false, false, false, false, false, false, false, false, false, false] rfl rfl (any_of HT_.out (by kernel_rfl)) (fun _ _ _ h => h) (Or.inl ⟨by rfl, ?_⟩) ?_ ?_
 rotate_left
 ·
  intro w'
  go_simp
  with_reducible rfl
 rotate_left
 ·
  simp only [Act.put, List.setIfInBounds_toArray, List.set_cons_zero, List.set_cons_succ, i64_w, i32_w]
  rfl
 refine pure_ (i := 6) (N := some 19) (v := ?_) (a' := ?_) #[true, true, true, true, true, true, true, false, false, false, false, false, false, false, false, false, false, false, false, false] rfl rfl (any_of HT_.out (by kernel_rfl)) (fun _ _ _ h => h) (Or.inl ⟨by rfl, ?_⟩) ?_ ?_
 rotate_left
 ·
  intro w'
  go_simp
  with_reducible rfl
 rotate_left
 ·
  simp only [Act.put, List.setIfInBounds_toArray, List.set_cons_zero, List.set_cons_succ, i64_w, i32_w]
  rfl
 refine take_ (i := 7) (N := some 20) (v := ?_) (a' := ?_) #[true, true, true, true, true, true, true, true, false, false, false, false, false, false, false, false, false, false, false, false] rfl rfl (take_ofW HT_.out HW_.out (by kernel_rfl)) (fun _ _ _ h => h) (Or.inl ⟨by rfl, ?_⟩) hHeld ?_ ?_
 rotate_left
 ·
  rintro w' hw
  have y := (blk_cell (blk_below HT1.out.blk hw) 1).trans (show _ = some l' from rfl)
  go_simp
  with_reducible rfl
 rotate_left
 ·
  simp only [Act.put, List.setIfInBounds_toArray, List.set_cons_zero, List.set_cons_succ, i64_w, i32_w]
  rfl
 refine one_ (i := 8) (N := some 21) #[true, true, true, true, true, true, true, true, true, false, false, false, false, false, false, false, false, false, false, false] rfl rfl (one_of HT_.out (by kernel_rfl)) (by decide) (fun K hK => ?_)
 refine goes_ Tryz.func19 (by kernel_rfl) rfl #[v1, l'] (by rfl) rfl rfl (by (try simp only [List.map_toArray, List.map_cons, List.map_nil]); first | done | rfl) ?_
 refine (same_walk kn v1 l' R W0 w.heap.size base' _ _ (Kd.R_below HR1.out hHeld) (Kd.R_below HT1.out.rec_ hHeld) HSM.out).mono ?_
 rintro e w2 ⟨rfl, hd⟩
 refine ⟨_, rfl, ?_⟩
 refine hK.out _ _ (below_step hHeld hd) (fun hHeld => ?_)
 clear hK K hd
 refine norm_ (a' := ?_) ?_ ?_
 rotate_left
 ·
  show Act.put _ (some 21) _ = _
  simp only [Act.put, List.setIfInBounds_toArray, List.set_cons_zero, List.set_cons_succ, i64_w, i32_w]
  rfl
 refine pure_ (i := 9) (N := some 22) (v := ?_) (a' := ?_) #[true, true, true, true, true, true, true, true, true, true, false, false, false, false, false, false, false, false, false, false] rfl rfl (any_of HT_.out (by kernel_rfl)) (fun _ _ _ h => h) (Or.inl ⟨by rfl, ?_⟩) ?_ ?_
 rotate_left
 ·
  intro w'
  go_simp
  with_reducible rfl
 rotate_left
 ·
  simp only [Act.put, List.setIfInBounds_toArray, List.set_cons_zero, List.set_cons_succ, i64_w, i32_w]
  rfl
 refine pure_ (i := 10) (N := some 23) (v := ?_) (a' := ?_) #[true, true, true, true, true, true, true, true, true, true, true, false, false, false, false, false, false, false, false, false] rfl rfl (any_of HT_.out (by kernel_rfl)) (fun _ _ _ h => h) (Or.inl ⟨by rfl, ?_⟩) ?_ ?_
 rotate_left
 ·
  intro w'
  go_simp
  with_reducible rfl
 rotate_left
 ·
  simp only [Act.put, List.setIfInBounds_toArray, List.set_cons_zero, List.set_cons_succ, i64_w, i32_w]
  rfl
 refine pure_ (i := 11) (N := some 24) (v := ?_) (a' := ?_) #[true, true, true, true, true, true, true, true, true, true, true, true, false, false, false, false, false, false, false, false] rfl rfl (any_of HT_.out (by kernel_rfl)) (fun _ _ _ h => h) (Or.inl ⟨by rfl, ?_⟩) ?_ ?_
 rotate_left
 ·
  intro w'
  go_simp
  with_reducible rfl
 rotate_left
 ·
  simp only [Act.put, List.setIfInBounds_toArray, List.set_cons_zero, List.set_cons_succ, i64_w, i32_w]
  rfl
 refine pure_ (i := 12) (N := some 25) (v := ?_) (a' := ?_) #[true, true, true, true, true, true, true, true, true, true, true, true, true, false, false, false, false, false, false, false] rfl rfl (any_of HT_.out (by kernel_rfl)) (fun _ _ _ h => h) (Or.inl ⟨by rfl, ?_⟩) ?_ ?_
 rotate_left
 ·
  intro w'
  go_simp
  with_reducible rfl
 rotate_left
 ·
  simp only [Act.put, List.setIfInBounds_toArray, List.set_cons_zero, List.set_cons_succ, i64_w, i32_w]
  rfl
 refine pure_ (i := 14) (N := some 27) (v := ?_) (a' := ?_) #[true, true, true, true, true, true, true, true, true, true, true, true, true, false, true, false, false, false, false, false] rfl rfl (any_of HT_.out (by kernel_rfl)) (fun _ _ _ h => h) (Or.inl ⟨by rfl, ?_⟩) ?_ ?_
 rotate_left
 ·
  intro w'
  go_simp
  with_reducible rfl
 rotate_left
 ·
  simp only [Act.put, List.setIfInBounds_toArray, List.set_cons_zero, List.set_cons_succ, i64_w, i32_w]
  rfl
 refine pure_ (i := 15) (N := some 28) (v := ?_) (a' := ?_) #[true, true, true, true, true, true, true, true, true, true, true, true, true, false, true, true, false, false, false, false] rfl rfl (any_of HT_.out (by kernel_rfl)) (fun _ _ _ h => h) (Or.inl ⟨by rfl, ?_⟩) ?_ ?_
 rotate_left
 ·
  intro w'
  go_simp
  with_reducible rfl
 rotate_left
 ·
  simp only [Act.put, List.setIfInBounds_toArray, List.set_cons_zero, List.set_cons_succ, i64_w, i32_w]
  rfl
 refine pure_ (i := 16) (N := some 29) (v := ?_) (a' := ?_) #[true, true, true, true, true, true, true, true, true, true, true, true, true, false, true, true, true, false, false, false] rfl rfl (any_of HT_.out (by kernel_rfl)) (fun _ _ _ h => h) (Or.inl ⟨by rfl, ?_⟩) ?_ ?_
 rotate_left
 ·
  intro w'
  go_simp
  with_reducible rfl
 rotate_left
 ·
  simp only [Act.put, List.setIfInBounds_toArray, List.set_cons_zero, List.set_cons_succ, i64_w, i32_w]
  rfl
 refine take_ (i := 17) (N := some 30) (v := ?_) (a' := ?_) #[true, true, true, true, true, true, true, true, true, true, true, true, true, false, true, true, true, true, false, false] rfl rfl (take_ofW HT_.out HW_.out (by kernel_rfl)) (fun _ _ _ h => h) (Or.inl ⟨by rfl, ?_⟩) hHeld ?_ ?_
 rotate_left
 ·
  rintro w' hw
  have y := (blk_cell (blk_below HT1.out.blk hw) 2).trans (show _ = some (.int .i64 ver) from rfl)
  go_simp
  with_reducible rfl
 rotate_left
 ·
  simp only [Act.put, List.setIfInBounds_toArray, List.set_cons_zero, List.set_cons_succ, i64_w, i32_w]
  rfl
 refine one_ (i := 13) (N := some 26) #[true, true, true, true, true, true, true, true, true, true, true, true, true, true, true, true, true, true, false, false] rfl rfl (one_of HT_.out (by kernel_rfl)) (by decide) (fun K hK => ?_)
 refine goes_ Tryz.func16 (by kernel_rfl) rfl #[.pointer (some ⟨g, 0, none⟩)] (by rfl) rfl rfl (by (try simp only [List.map_toArray, List.map_cons, List.map_nil]); first | done | rfl) ?_
 refine (version_at g most l m1 m2 ver w2 (blk_below HG1.out hHeld)).mono ?_
 rintro e w3 ⟨rfl, rfl⟩
 refine ⟨_, rfl, ?_⟩
 refine hK.out _ _ hHeld (fun hHeld => ?_)
 clear hK K
 refine norm_ (a' := ?_) ?_ ?_
 rotate_left
 ·
  show Act.put _ (some 26) _ = _
  simp only [Act.put, List.setIfInBounds_toArray, List.set_cons_zero, List.set_cons_succ, i64_w, i32_w]
  rfl
 refine pure_ (i := 18) (N := some 31) (v := ?_) (a' := ?_) #[true, true, true, true, true, true, true, true, true, true, true, true, true, true, true, true, true, true, true, false] rfl rfl (any_of HT_.out (by kernel_rfl)) (fun _ _ _ h => h) (Or.inl ⟨by rfl, ?_⟩) ?_ ?_
 rotate_left
 ·
  intro w'
  go_simp
  with_reducible rfl
 rotate_left
 ·
  simp only [Act.put, List.setIfInBounds_toArray, List.set_cons_zero, List.set_cons_succ, i64_w, i32_w]
  rfl
 refine pure_ (i := 19) (N := some 32) (v := ?_) (a' := ?_) #[true, true, true, true, true, true, true, true, true, true, true, true, true, true, true, true, true, true, true, true] rfl rfl (any_of HT_.out (by kernel_rfl)) (fun _ _ _ h => h) (Or.inl ⟨by rfl, ?_⟩) ?_ ?_
 rotate_left
 ·
  intro w'
  go_simp
  with_reducible rfl
 rotate_left
 ·
  simp only [Act.put, List.setIfInBounds_toArray, List.set_cons_zero, List.set_cons_succ, i64_w, i32_w]
  rfl
 refine done_ (done_of HT_.out (by kernel_rfl)) ?_
 have HB2 := Aside0.mk (below_step HB1.out hHeld)
 have HT2 := Aside0.mk (HT1.out.kept hHeld)
 clear hHeld
 go_wp2
 go_loopw [7] (fun v7 wr => ∃ k : Int, -1 ≤ k ∧ k ≤ 5 ∧ v7 = .int .i64 k ∧ Aside0 (Below w.heap.size w wr)) (fun v7 _ => (5 - intOf v7).toNat)
 case atStart => exact ⟨-1, by omega, by omega, rfl, HB2⟩
 case round =>
  obtain ⟨kd, hk1, hk2, rfl, HB⟩ := hrel
  by_cases hlt : kd < 5
  ·
   have hw : wrap64 (kd + 1) = kd + 1 := by unfold wrap64; omega
   go_wp2_with (first | (go_at_call 33; refine (len_walk g most ver kd l m1 m2 R base FR wr (blk_below HP.out.mp.blk HB.out) (Kd.R_below HP.out.rec_ HB.out) HLA.out HRL.out).mono ?_; rintro e w3 ⟨rfl, hb3⟩; have HB3 := Aside0.mk (below_step HB.out hb3); clear hb3) | (go_at_call 51; refine (rlen_walk g' most' ver kd R F' w3 base' l' (HT.out.kept HB3.out) HRL.out).mono ?_; rintro e w4 ⟨rfl, hd4⟩; have HB4 := Aside0.mk (below_step HB3.out (drawn_below hd4)); clear hd4))
   go_roundw
   case rel => exact ⟨kd + 1, by omega, by omega, by simp [hw], HB4⟩
   case measure => simp [intOf, hw]; omega
  ·
   go_wp2
   go_ret
   exact ⟨rfl, HB.out⟩
end Go.Proofs.YtefeibndnghejaaGreatDoor.Pr
end
