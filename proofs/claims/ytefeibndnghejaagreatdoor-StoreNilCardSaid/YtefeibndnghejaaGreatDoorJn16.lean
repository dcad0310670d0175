import Derived.Test.YtefeibndnghejaaGreatDoorJn15
import Derived.Maps.AppendAt
import Derived.Test.YtefeibndnghejaaGreatDoorJn11
import Derived.Test.YtefeibndnghejaaGreatDoorJn5
section
set_option linter.unusedVariables false
set_option linter.unusedSimpArgs false
namespace Go.Proofs.YtefeibndnghejaaGreatDoor.Pr
open Go.RowKit Go.Proofs.YtefeibndnghejaaGreatDoorW.PrintWords Go.Proofs.YtefeibndnghejaaGreatDoorW.PrintLast Go.Proofs.YtefeibndnghejaaGreatDoorW.PrintMore
theorem z36_ones : ∀ v ∈ z36.toList, v.oneCell' = true := by decide
section
variable {w : World} {base g n cap : Nat} {ok : Nat → Prop} {xs : List Rd}
theorem own_at {d : Kd Rd} {e : Nat} (h : d.R e w base ok (.slice (some ⟨g, 0, none⟩) n cap) xs) : n = xs.length ∧ base ≤ g ∧ n ≤ cap ∧ cap ≤ maxLen ∧ ok g ∧ ∃ cur inner, w.heap[g]? = some (.cells cur e (0, 0)) ∧ cur.size = cap * d.sz ∧ cur.toList.take (n * d.sz) = inner ∧ Reps (d.M w base (fun k => ok k ∧ k ≠ g)) d.sz xs inner := by
 have hn := (Kd.R_reads' h).1
 obtain ⟨hok, inner, ho, hr⟩ := h
 rcases ho.2 with ⟨hv, _⟩ | ⟨g1, cap1, cur, hv, hb, hh, hnc, hcm, hcs, ht⟩
 ·
  cases hv
 injection hv with h1 h2 h3
 injection h1 with h1
 injection h1 with h1
 subst h1; subst h2; subst h3
 refine ⟨rfl, hb, hnc, hcm, hok _ rfl, cur, inner, hh, hcs, ht, ?_⟩
 exact hr.imp_ (fun p c hp => d.M_mono (fun k hk => ⟨hk.1, fun e => hk.2 (by rw [e]; rfl)⟩) hp)
theorem clear36 (h : kRc.R 36 w base ok (.slice (some ⟨g, 0, none⟩) n cap) xs) (k c : Nat) (hk : k < n) :
  ∃ w', (∀ ty, (Builtin.clear_ #[29] ty #[.slice (some ⟨g, k * 40, none⟩) (n - k) c]).run Tryz.prog w = .ok (.tuple #[]) w') ∧ kRc.R 36 w' base ok (.slice (some ⟨g, 0, none⟩) k cap) (xs.take k) ∧ w.grownBy w' (some g) := by
 have hR := h
 obtain ⟨rfl, hb, hnc, hcm, hokg, cur, inner, hh, hcs, ht, hr⟩ := own_at h
 have hd : kRc.sz = 40 := rfl
 rw [hd] at hcs ht
 have hz : ∀ w, (zeroValue 36).run Tryz.prog w = .ok (.agg z36) w := fun w => by kernel_rfl
 have hce : (Value.agg z36).cells = z36 := rfl
 have hlen : (Builtin.zeroCells z36 (xs.length - k)).toList.length = (xs.length - k) * 40 := by
  simp only [Builtin.zeroCells, Array.length_toList, Array.size_map, Array.size_range]
  rfl
 have hone : ∀ v ∈ (Builtin.zeroCells z36 (xs.length - k)).toList, v.oneCell' = true := by
  intro v hv
  simp only [Builtin.zeroCells, Array.toList_map, List.mem_map] at hv
  obtain ⟨i, _, rfl⟩ := hv
  have hi : i % z36.size < z36.size := Nat.mod_lt _ (by decide)
  rw [getElem!_pos z36 _ hi]
  exact z36_ones _ (by simp)
 generalize hZ : (Builtin.zeroCells z36 (xs.length - k)).toList = Z at hlen hone
 have hfit : k * 40 + Z.length ≤ cur.size := by rw [hlen, hcs, ← Nat.add_mul]; exact Nat.mul_le_mul_right 40 (by omega)
 have hst := run_storeCells_cells (P := Tryz.prog) g (k * 40) Z 0 w (fun j hj => by rw [cell_of_row w g _ cur 36 (0, 0) hh]; simp; omega) (fun j _ => blk_frozen hh _) hone
 simp only [Nat.add_zero] at hst
 obtain ⟨m, hm⟩ : ∃ m, xs.length - k = m + 1 := ⟨xs.length - k - 1, by omega⟩
 refine ⟨w.setCells g (k * 40) Z, fun ty => ?_, ?_, ?_⟩
 ·
  rw [hm] at hZ ⊢
  simp [Builtin.clear_, run_underlying Tryz.underlying29, hz, hce, hZ, hst]
 ·
  obtain ⟨cur', h3, h4, h5⟩ := setCells_row Z (k * 40) w cur hh hfit
  have hlk : (xs.take k).length = k := by simp; omega
  refine ⟨fun q hq => hR.1 q hq, inner.take (k * 40), ⟨by rw [hlk, List.length_take, hr.1, hd, Nat.min_eq_left (Nat.mul_le_mul_right 40 (by omega))], .inr ⟨g, cap, cur', by rw [hlk], hb, h3, by rw [hlk]; omega, hcm, by rw [h4, hcs, hd], ?_⟩⟩, ?_⟩
  ·
   rw [hlk, hd, h5, List.append_assoc, List.take_append_of_le_length (by simp; omega), List.take_take, Nat.min_self, ← ht, List.take_take, Nat.min_eq_left (Nat.mul_le_mul_right 40 (by omega))]
  ·
   refine ⟨by rw [hlk, hd, List.length_take, hr.1, hd, Nat.min_eq_left (Nat.mul_le_mul_right 40 (by omega))], fun j p hj => ?_⟩
   have hjl := (List.getElem?_eq_some_iff.1 hj).1
   rw [hlk] at hjl
   rw [List.getElem?_take, if_pos hjl] at hj
   have hM := hr.2 j p hj
   rw [hd] at hM ⊢
   have e : ((inner.take (k * 40)).drop (j * 40)).take 40 = (inner.drop (j * 40)).take 40 := by
    rw [List.drop_take, List.take_take, Nat.min_eq_left (by omega)]
   rw [e]
   refine Kd.M_step (kRc.M_mono (fun q hq => ⟨hq.1, fun e => hq.2 (by injection e)⟩) hM) (fun q hq _ => setCells_far Z _ q (fun e => hq.2 (by rw [e]; rfl)))
 ·
  obtain ⟨s1, s2, s3, s4⟩ := setCells_same g Z (k * 40) w
  exact ⟨s1, s2, s3, by rw [s4]; exact Nat.le_refl _, fun q _ hq => setCells_far Z _ q (fun he => hq (by rw [he]))⟩
end
theorem idxF_split (p : Rd → Bool) : ∀ l : List Rd, (idxF p l = l.length → l.filter (fun r => !p r) = l) ∧ (∀ h : idxF p l < l.length, p l[idxF p l] = true ∧ l.take (idxF p l) ++ (l.drop (idxF p l + 1)).filter (fun r => !p r) = l.filter (fun r => !p r))
 | [] => ⟨fun _ => rfl, fun h => by cases h⟩
 | r :: l => by
  obtain ⟨h1, h2⟩ := idxF_split p l
  by_cases hp : p r = true
  ·
   have e : idxF p (r :: l) = 0 := by rw [idxF, if_pos hp]
   refine ⟨fun h => (by rw [e] at h; cases h), fun h => ?_⟩
   simp [e, hp]
  ·
   have hp' : p r = false := by simpa using hp
   have e : idxF p (r :: l) = idxF p l + 1 := by rw [idxF, if_neg hp]
   refine ⟨fun h => ?_, fun h => ?_⟩
   ·
    rw [e] at h
    rw [List.filter_cons, if_pos (by simp [hp']), h1 (by simpa using h)]
   ·
    have h' : idxF p l < l.length := by rw [e] at h; simpa using h
    obtain ⟨h3, h4⟩ := h2 h'
    refine ⟨?_, ?_⟩
    ·
     simp only [e, List.getElem_cons_succ]; exact h3
    ·
     rw [e, List.take_succ_cons, List.drop_succ_cons, List.filter_cons, if_pos (by simp [hp']), List.cons_append, h4]
def zRd : Rd := ⟨⟨0, ⟨#[]⟩, 0, 0, 0, 0, ⟨#[]⟩, [], [], []⟩, []⟩
theorem put_there {w : World} {gr : Nat} {i : Nat} {c : List Value} (hcl : c.length = 40) (hcc : ∀ j u, c[j]? = some u → w.cell? ⟨gr, i * 40 + j, none⟩ = some u) (hfr : ∀ j, w.frozen? ⟨gr, i * 40 + j, none⟩ = false) : w.there gr (i * 40) 40 := fun j hj =>
 ⟨by rw [hcc j _ (List.getElem?_eq_getElem (by omega))]; rfl, hfr j⟩
set_option maxRecDepth 100000 in
set_option maxHeartbeats 8000000 in
theorem del_walk (gr c tb : Nat) (t : Int) (R : List Rd) (w : World) (base : Nat) (ok : Nat → Prop) (hR : kRc.R 36 w base ok (.slice (some ⟨gr, 0, none⟩) R.length c) R) (ht : w.heap[tb]? = some (.cells #[.int .i64 t] 2 (0, 0))) (hgw : gr < w.heap.size) :
  Calls Tryz.prog 45 #[.slice (some ⟨gr, 0, none⟩) R.length c, .func (.func 46) #[] #[.pointer (some ⟨tb, 0, none⟩)]] w fun e w' =>
   ∃ k, e = .returned (.slice (some ⟨gr, 0, none⟩) k c) ∧ kRc.R 36 w' base ok (.slice (some ⟨gr, 0, none⟩) k c) (R.filter fun r => !decide (r.x.fin < t)) ∧ w.grownBy w' (some gr) := by
 have hu36 := Tryz.underlying36
 obtain ⟨-, hlc, hC⟩ := Kd.R_reads' hR
 have hmx := Kd.C_max hC
 have hct : w.cell? ⟨tb, 0, none⟩ = some (.int .i64 t) := (blk_cell ht 0).trans rfl
 have htg : tb ≠ gr := by
  obtain ⟨_, _, _, _, _, cur, _, hh, _⟩ := own_at hR
  intro e
  subst e
  rw [ht] at hh
  cases hh
 have HRC := Aside0.mk hR
 have HC := Aside0.mk hC
 have HT := Aside0.mk hct
 have HTG := Aside0.mk htg
 have HTB := Aside0.mk (World.block_lt_of_cell? w _ hct)
 have HGW := Aside0.mk hgw
 have HLC := Aside0.mk hlc
 obtain ⟨p, hp⟩ : ∃ p : Rd → Bool, p = fun r => decide (r.x.fin < t) := ⟨_, rfl⟩
 have hidx := idx_walk gr c tb t R w hC hlc hct
 rw [← hp] at hidx
 have hfil : (R.filter fun r => !decide (r.x.fin < t)) = R.filter fun r => !p r := by rw [hp]
 rw [hfil]
 have HIDX := Aside0.mk hidx
 have HP := Aside0.mk hp
 obtain ⟨hs1, hs2⟩ := idxF_split p R
 have hle := idxF_le p R
 clear hR hC hct htg hgw ht hidx hp hfil
 by_cases hall : idxF p R = R.length
 ·
  have HI : Aside0 (idxI p R = -1) := ⟨by rw [idxI, if_neg (by omega)]⟩
  have HF := Aside0.mk (hs1 hall)
  clear hs1 hs2 hall hle
  go_enter Tryz.func45, Tryz.ntmps45
  go_wp2_with (go_at_call 73; refine HIDX.out.mono ?_; rintro e w1 ⟨rfl, hb1⟩; have HB1 := Aside0.mk hb1; clear hb1; rw [HI.out])
  go_ret
  exact ⟨_, rfl, by rw [HF.out]; exact Kd.R_below HRC.out HB1.out, ⟨HB1.out.os, HB1.out.tape, HB1.out.output, HB1.out.size, fun k hk _ => HB1.out.block k hk⟩⟩
 ·
  have hlt0 : idxF p R < R.length := by omega
  obtain ⟨hpi, hsp⟩ := hs2 hlt0
  have HI : Aside0 (idxI p R = (idxF p R : Int)) := ⟨by rw [idxI, if_pos hlt0]⟩
  have HSP := Aside0.mk hsp
  generalize hi0 : idxF p R = i0 at HI HSP hlt0
  have hw0 : wrap64 ((i0 : Int) + 1) = ((i0 + 1 : Nat) : Int) := by unfold wrap64; omega
  clear hs1 hs2 hall hle hpi hsp hi0
  go_enter Tryz.func45, Tryz.ntmps45
  go_wp2_with (go_at_call 73; refine HIDX.out.mono ?_; rintro e w1 ⟨rfl, hb1⟩; have HB1 := Aside0.mk hb1; clear hb1; rw [HI.out])
  go_loopw [5, 6] (fun v5 v6 wr => ∃ (i j : Nat) (d : List Rd), i < j ∧ j ≤ R.length ∧ v5 = .int .i64 i ∧ v6 = .int .i64 j ∧ Aside0 (kRc.R 36 wr base ok (.slice (some ⟨gr, 0, none⟩) R.length c) d) ∧ Aside0 (d.drop j = R.drop j ∧ d.take i ++ (R.drop j).filter (fun r => !p r) = R.filter (fun r => !p r)) ∧ Aside0 (w.grownBy wr (some gr))) (fun _ v6 _ => R.length - (intOf v6).toNat)
  case atStart => exact ⟨i0, i0 + 1, R, by omega, by omega, rfl, by go_num, ⟨Kd.R_below HRC.out HB1.out⟩, ⟨rfl, HSP.out⟩, ⟨HB1.out.os, HB1.out.tape, HB1.out.output, HB1.out.size, fun k hk _ => HB1.out.block k hk⟩⟩
  case round =>
   clear hw0 hlt0 HI HIDX HSP HB1
   obtain ⟨i, j, d, hij, hj, rfl, rfl, HR, HD, HG⟩ := hrel
   have hdl := (Kd.R_reads' HR.out).1
   have HDL := Aside0.mk hdl
   clear hdl
   by_cases hlt : j < R.length
   ·
    have hbl : ((j : Nat) : Int) < (R.length : Int) := by omega
    have hbi : ((i : Nat) : Int) < (R.length : Int) := by omega
    obtain ⟨cc, hcl, hM, hcc, hfr⟩ := Kd.R_elem HR.out zRd (j : Int) (by omega) (by omega)
    rw [Int.toNat_natCast] at hM hcc hfr
    obtain ⟨hok, v, rfl, hMR⟩ := hM
    have hdj : d.getD j zRd = R[j] := by
     have := congrArg (fun l => l[0]?) HD.out.1
     simp only [List.getElem?_drop, Nat.add_zero, List.getElem?_eq_getElem hlt] at this
     rw [List.getD_eq_getElem?_getD, this]
     rfl
    rw [hdj] at hok hMR hcc hcl
    have hst : R.drop j = R[j] :: R.drop (j + 1) := List.drop_eq_getElem_cons hlt
    have hpj : p R[j] = decide (R[j].x.fin < t) := by rw [HP.out]
    obtain ⟨x, hx⟩ : ∃ x, x = R[j] := ⟨_, rfl⟩
    rw [← hx] at hok hMR hcc hcl hst hpj
    have hrow : wr.rangeAt gr (j * 40) (x.x.cells v).toList := fun q u hu => hcc q u hu
    have hs := Rc.size hok v
    have h1c : (x.x.cells v).all (·.oneCell') = true := Rc.ones x.x (by obtain ⟨A, c, rfl⟩ := Kd.R_slice hMR; rfl)
    obtain ⟨cs, hcs⟩ : ∃ cs, cs = x.x.cells v := ⟨_, rfl⟩
    rw [← hcs] at hrow hs h1c
    have HCS := Aside0.mk hcs
    have HROW := Aside0.mk hrow
    have HOK := Aside0.mk hok
    have HST := Aside0.mk hst
    have HPJ := Aside0.mk hpj
    have HMR := Aside0.mk hMR
    have H1C := Aside0.mk h1c
    have hw : wrap64 ((j : Int) + 1) = (j : Int) + 1 := by unfold wrap64; omega
    have hwi : wrap64 ((i : Int) + 1) = (i : Int) + 1 := by unfold wrap64; omega
    clear hok hMR hcc hcl hfr hdj hx hrow hst hpj hcs h1c
    go_wp2_with (refine wpList_load_mid rfl 36 (.tmp 24) rfl gr (j * 40) rfl cs.toList _ HROW.out hu36 rfl (by rw [Array.length_toList, hs]; kernel_rfl) (Aside0.out ?_))
    refine ⟨?_⟩
    go_wp2_with (refine wpList_store_rowTo rfl 36 (.tmp 7) (.tmp 25) rfl rfl wr.heap.size cs rfl rfl 36 z36 (blk_new wr (.cells z36 36)) (by rw [hs]; kernel_rfl) (by rw [hs]; rfl) H1C.out (Aside0.out ?_))
    refine ⟨?_⟩
    have HW : Aside0 (((wr.alloc (.cells z36 36)).setRow wr.heap.size cs).heap[wr.heap.size]? = some (.cells cs 36 (0, 0)) ∧ Below wr.heap.size wr ((wr.alloc (.cells z36 36)).setRow wr.heap.size cs)) :=
     ⟨blk_setRow (blk_new wr _), below_setRow (below_alloc (Below.refl _ _) _) (Nat.le_refl _) _⟩
    obtain ⟨W1, hW1⟩ : ∃ W1, W1 = (wr.alloc (.cells z36 36)).setRow wr.heap.size cs := ⟨_, rfl⟩
    rw [← hW1] at HW
    unfold z36 at hW1
    rw [← hW1]
    clear hW1
    refine wpList_nil ?_
    have hgt : W1.cell? ⟨tb, 0, none⟩ = some (.int .i64 t) := (World.cell?_of_block (w := w) ((HW.out.2.block tb (Nat.lt_of_lt_of_le HTB.out HG.out.size)).trans (HG.out.block tb HTB.out (fun e => HTG.out (Option.some.inj e))))).trans HT.out
    have HGT := Aside0.mk hgt
    clear hgt
    go_wp2_with (refine wpList_load_row rfl 36 (.tmp 7) rfl wr.heap.size rfl 36 cs (0, 0) _ HW.out.1 hu36 rfl (by rw [hs]; kernel_rfl) (Aside0.out ?_))
    refine ⟨?_⟩
    go_wp2_with fail
    refine (HCS.out ▸ cut1_walk x.x HOK.out v tb t W1 HGT.out).mono ?_
    rintro e w2 ⟨rfl, hb2⟩
    have HB2 := Aside0.mk (below_step HW.out.2 hb2)
    have HBX := Aside0.mk (blk_below HW.out.1 hb2)
    have HR2 := Aside0.mk (Kd.R_below HR.out HB2.out)
    rw [← HPJ.out]
    cases hpx : p x with
    | true =>
     have HPX := Aside0.mk hpx
     clear hpx hb2
     go_wp2_with fail
     go_roundw
     case rel =>
      repeat apply Exists.intro
      refine ⟨⟨i, j + 1, d, by omega, by omega, rfl, rfl, HR2, ⟨by have := congrArg (List.drop 1) HD.out.1; rwa [List.drop_drop, List.drop_drop] at this, by rw [← HD.out.2, HST.out, List.filter_cons, if_neg (by simp [HPX.out])]⟩, ⟨HG.out.trans ⟨HB2.out.os, HB2.out.tape, HB2.out.output, HB2.out.size, fun k hk _ => HB2.out.block k hk⟩⟩⟩, ?_⟩
      rfl
     case measure => simp [intOf, hw]; omega
    | false =>
     have HPX := Aside0.mk hpx
     obtain ⟨ci, hcl, _, hcc, hfr⟩ := Kd.R_elem HR2.out zRd (i : Int) (by omega) (by omega)
     have hM2 : kRc.M w2 base (fun k => ok k ∧ k ≠ gr) x (ci.take 0 ++ cs.toList ++ ci.drop (0 + cs.toList.length)) := by
      rw [List.take_zero, List.nil_append, List.drop_of_length_le (by rw [hcl, Array.length_toList, hs]; exact Nat.le_refl _), List.append_nil, HCS.out]
      exact ⟨HOK.out, v, rfl, Kd.R_below HMR.out HB2.out⟩
     have hseg := Kd.R_seg HR2.out (i : Int) (by omega) (by omega) (seg := cs.toList) (j := 0) hcl hcc (by rw [Array.length_toList, hs]; exact Nat.le_refl _) hM2 (fun _ h => h)
     rw [Int.toNat_natCast] at hcc hfr hseg
     have hth : w2.there gr (i * 40) cs.size := fun q hq => put_there hcl hcc hfr q (by rw [← hs]; exact hq)
     have HSEG := Aside0.mk hseg
     have HTH := Aside0.mk hth
     clear hpx hb2 hM2 hseg hcl hcc hfr hth
     go_wp2_with (refine wpList_load_row rfl 36 (.tmp 7) rfl wr.heap.size rfl 36 cs (0, 0) _ HBX.out hu36 rfl (by rw [hs]; kernel_rfl) (Aside0.out ?_))
     refine ⟨?_⟩
     go_wp2_with (refine wpList_store_mid rfl 36 (.tmp 33) (.tmp 32) rfl gr (i * 40) cs rfl rfl HTH.out (by rw [hs]; kernel_rfl) H1C.out (Aside0.out ?_))
     refine ⟨?_⟩
     have HS2 : Aside0 (kRc.R 36 (w2.setCells gr (i * 40) cs.toList) base ok (.slice (some ⟨gr, 0, none⟩) R.length c) (d.set i x) ∧ w2.grownBy (w2.setCells gr (i * 40) cs.toList) (some gr)) := HSEG
     generalize w2.setCells gr (i * 40) cs.toList = W3 at HS2 ⊢
     refine wpList_nil ?_
     go_wp2_with fail
     go_roundw
     case rel =>
      repeat apply Exists.intro
      refine ⟨⟨i + 1, j + 1, d.set i x, by omega, by omega, rfl, rfl, ⟨HS2.out.1⟩, ⟨by rw [List.drop_set_of_lt (by omega)]; have := congrArg (List.drop 1) HD.out.1; rwa [List.drop_drop, List.drop_drop] at this, by rw [← HD.out.2, HST.out, List.filter_cons, if_pos (by simp [HPX.out]), List.take_succ_eq_append_getElem (by rw [List.length_set, ← HDL.out]; omega), List.getElem_set_self, List.take_set_of_le (Nat.le_refl _), List.append_assoc]; rfl⟩, ⟨((HG.out.trans ⟨HB2.out.os, HB2.out.tape, HB2.out.output, HB2.out.size, fun k hk _ => HB2.out.block k hk⟩)).trans HS2.out.2⟩⟩, ?_⟩
      rfl
     case measure => simp [intOf, hw]; omega
   ·
    obtain rfl : j = R.length := by omega
    have hz : ¬ (R.length : Int) < (R.length : Int) := by omega
    have hic : (i : Int) ≤ (c : Int) := by have := HLC.out; omega
    have hil : (i : Int) ≤ (R.length : Int) := by omega
    obtain ⟨w3, hcl, hR3, hg3⟩ := clear36 HR.out i (c - i) (by omega)
    have HR3 := Aside0.mk (And.intro hR3 hg3)
    have HF : Aside0 (d.take i = R.filter fun r => !p r) := ⟨by have := HD.out.2; rwa [List.drop_of_length_le (Nat.le_refl _), List.filter_nil, List.append_nil] at this⟩
    clear hR3 hg3
    go_wp2
    go_ret
    exact ⟨i, rfl, by rw [← HF.out]; exact HR3.out.1, HG.out.trans HR3.out.2⟩
end Go.Proofs.YtefeibndnghejaaGreatDoor.Pr
end
section
set_option linter.unusedVariables false
set_option linter.unusedSimpArgs false
namespace Go.Proofs.YtefeibndnghejaaGreatDoor.Pr
open Go.RowKit Go.Proofs.YtefeibndnghejaaGreatDoorW.PrintWords Go.Proofs.YtefeibndnghejaaGreatDoorW.PrintLast Go.Proofs.YtefeibndnghejaaGreatDoorW.PrintMore
def keptR (t : Int) (R : List Rd) : List Rd := R.filter fun r => !decide (r.x.fin < t)
theorem keptR_le (t : Int) (R : List Rd) : (keptR t R).length ≤ R.length := List.length_filter_le _ _
theorem keptR_all {t : Int} {R : List Rd} (h : (keptR t R).length = R.length) : keptR t R = R := by
 unfold keptR at h ⊢
 exact List.filter_eq_self.2 (List.length_filter_eq_length_iff.1 h)
theorem keptR_mem {t : Int} {R : List Rd} {r : Rd} (h : r ∈ keptR t R) : r ∈ R := (List.mem_filter.1 h).1
theorem del_nil (tb : Nat) (w : World) :
  Calls Tryz.prog 45 #[.slice none 0 0, .func (.func 46) #[] #[.pointer (some ⟨tb, 0, none⟩)]] w fun e w' => e = .returned (.slice none 0 0) ∧ Below w.heap.size w w' := by
 have h73 : Calls Tryz.prog 73 #[.slice none 0 0, .func (.func 46) #[] #[.pointer (some ⟨tb, 0, none⟩)]] w fun e w' => e = .returned (.int .i64 (-1)) ∧ w' = w := by
  go_enter Tryz.func73, Tryz.ntmps73
  go_wp2
  refine wp_loop_rounds 1 ?_
  rw [rounds_succ]
  go_wp2
  go_ret
  exact ⟨rfl, rfl⟩
 have H := Aside0.mk h73
 clear h73
 go_enter Tryz.func45, Tryz.ntmps45
 go_wp2_with (go_at_call 73; refine H.out.mono ?_; rintro e w1 ⟨rfl, rfl⟩)
 go_ret
 exact ⟨rfl, Below.refl _ _⟩
theorem del_any (tb : Nat) (t : Int) (v : Value) (R : List Rd) (w : World) (base : Nat) (ok : Nat → Prop) (hR : kRc.R 36 w base ok v R) (ht : w.heap[tb]? = some (.cells #[.int .i64 t] 2 (0, 0))) :
  Calls Tryz.prog 45 #[v, .func (.func 46) #[] #[.pointer (some ⟨tb, 0, none⟩)]] w fun e w' =>
   ∃ v', e = .returned v' ∧ v'.ownBlock = v.ownBlock ∧ kRc.R 36 w' base ok v' (keptR t R) ∧ w.grownBy w' v.ownBlock := by
 obtain ⟨A, c, rfl⟩ := Kd.R_slice hR
 have hown := hR
 obtain ⟨_, inner, ho, _⟩ := hown
 rcases ho.2 with ⟨hv, h0⟩ | ⟨g, cap, cur, hv, hb, hh, _⟩
 ·
  injection hv with h1 h2 h3
  subst h1; subst h3
  have : R = [] := List.eq_nil_of_length_eq_zero h0
  subst this
  refine (del_nil tb w).mono ?_
  rintro e w' ⟨rfl, hb⟩
  exact ⟨_, rfl, rfl, Kd.R_nil _ _ _ _ _, ⟨hb.os, hb.tape, hb.output, hb.size, fun k hk _ => hb.block k hk⟩⟩
 ·
  injection hv with h1 h2 h3
  subst h1; subst h3
  refine (del_walk g c tb t R w base ok hR ht (blk_lt hh)).mono ?_
  rintro e w' ⟨k, rfl, hR', hg⟩
  exact ⟨_, rfl, rfl, hR', hg⟩
theorem Mp.mono {w : World} {base : Nat} {F G : Nat → Prop} {g : Nat} {most : Int} {l : Value} {ver : Int} {R : List Rd} {N : Nat} {m1 m2 : Value} {F1 F2 : Nat → Prop} (h : Mp w base F g most l ver R N m1 m2 F1 F2) (hG : ∀ q, F q → G q) (hg : ¬ G g) : Mp w base G g most l ver R N m1 m2 F1 F2 :=
 ⟨h.blk, h.ser, h.spn, fun q hq => hG q (h.in1 q hq), fun q hq => hG q (h.in2 q hq), h.ap, hg⟩
def CutPost (base : Nat) (F : Nat → Prop) (g : Nat) (most ver : Int) (R : List Rd) (t : Int) (w : World) (e : Ending) (w' : World) : Prop :=
  e = .returned (.int .i64 ((R.length - (keptR t R).length : Nat) : Int)) ∧ Chg F w w' ∧ St w' base (NewF F w w') g most (if (keptR t R).length < R.length then ver + 1 else ver) (keptR t R)
set_option maxRecDepth 100000 in
set_option maxHeartbeats 8000000 in
theorem cut_walk (g : Nat) (most ver t : Int) (R : List Rd) (F : Nat → Prop) (w : World) (base : Nat) (hS : St w base F g most ver R)
  (hR : R.length < 1048576) (hv : -4611686018427387904 < ver ∧ ver < 4611686018427387904) (hbase : base ≤ w.heap.size) :
  Calls Tryz.prog 17 #[.pointer (some ⟨g, 0, none⟩), .int .i64 t] w (CutPost base F g most ver R t w) := by
 have hu36 := Tryz.underlying36
 obtain ⟨l, m1, m2, FR, FM, F1, F2, hP⟩ := hS
 obtain ⟨A, c, rfl⟩ := Kd.R_slice hP.rec_
 have HP := Aside0.mk hP
 have HRL := Aside0.mk hR
 have HV := Aside0.mk hv
 have HBS := Aside0.mk hbase
 have hgw := (hP.lt g hP.fg).2
 obtain ⟨W1, hW1⟩ : ∃ W1, W1 = w.alloc (.cells #[.int .i64 t] 2) := ⟨_, rfl⟩
 have hbw : Below w.heap.size w W1 := hW1 ▸ below_alloc (Below.refl _ _) _
 have htb : W1.heap[w.heap.size]? = some (.cells #[.int .i64 t] 2 (0, 0)) := hW1 ▸ blk_new w _
 have hg1 := blk_below hP.mp.blk hbw
 have c1 := (blk_cell hg1 1).trans (show _ = some (.slice A R.length c) from rfl)
 have HBW := Aside0.mk hbw
 have HDEL := Aside0.mk (del_any w.heap.size t (.slice A R.length c) R W1 base FR (Kd.R_below hP.rec_ hbw) htb)
 have HG1 := Aside0.mk hg1
 have HGW := Aside0.mk hgw
 have hle := keptR_le t R
 have HKM : Aside0 (∀ r ∈ keptR t R, r.fine) := ⟨fun r hr => hP.fine r (keptR_mem hr)⟩
 have HEQ : Aside0 ((keptR t R).length = R.length → keptR t R = R) := ⟨keptR_all⟩
 clear hP hR hv hbase hbw htb hg1 hgw
 generalize hkl : (keptR t R).length = kl at hle HEQ
 have HKL := Aside0.mk hkl
 clear hkl
 go_enter Tryz.func17, Tryz.ntmps17
 go_upto_region 1 with (fail)
 rw [← hW1]
 clear hW1
 obtain ⟨D, hD⟩ : ∃ D : Nat, D = R.length - kl := ⟨_, rfl⟩
 have HD := Aside0.mk hD
 have hRl := HRL.out
 go_upto_region 5 with (go_at_call 45; refine HDEL.out.mono ?_; rintro e w2 ⟨v', rfl, hob, hR2, hg2⟩; obtain ⟨A2, c2, rfl⟩ := Kd.R_slice hR2; rw [HKL.out] at hR2 hob ⊢; have HR2 := Aside0.mk (And.intro hob (And.intro hR2 hg2)); have hgb : w2.heap[g]? = some (.cells (stC most (.slice A R.length c) m1 m2 ver) 81 (0, 0)) := ((hg2.block g (blk_lt HG1.out) (fun e => HP.out.ngR (HP.out.rec_.1 g e.symm))).trans HG1.out); have HGB := Aside0.mk hgb; have f1 := blk_frozen hgb 1; have d1 := (blk_cell hgb 1).trans (show _ = some (.slice A R.length c) from rfl); clear hob hR2 hg2 hgb)
 obtain ⟨W3, hW3⟩ : ∃ W3, W3 = w2.setCell ⟨g, 1, none⟩ (.slice A2 kl c2) := ⟨_, rfl⟩
 have hb3 : W3.heap[g]? = some (.cells (stC most (.slice A2 kl c2) m1 m2 ver) 81 (0, 0)) := hW3 ▸ blk_set HGB.out 1 _
 have hs3 : W3.heap.size = w2.heap.size := by rw [hW3]; simp [World.setCell]
 have hR3 : kRc.R 36 W3 base FR (.slice A2 kl c2) (keptR t R) := hW3 ▸ Kd.R_set HR2.out.2.1 HGB.out (by decide) 1 _
 have hch3 : Chg F w W3 := ((Chg.of_below (F := FR) HBW.out).trans (Chg.grown (F := FR) HR2.out.2.2 (fun q hq => HP.out.rec_.1 q hq)) (fun q hq => .inl hq)).mono HP.out.inR |>.trans (hW3 ▸ Chg.setCell (F := F) HP.out.fg _) (fun q hq => .inl hq)
 have hM3 : ∀ k, FM k → W3.heap[k]? = w.heap[k]? := fun k hk => by
  have hlt := (HP.out.lt k (HP.out.inM k hk)).2
  rw [hW3, Below.heap_setCell w2 ⟨g, 1, none⟩ _ k (fun e => HP.out.mp.ng ((show k = g from e) ▸ hk))]
  exact (HR2.out.2.2.block k (Nat.lt_of_lt_of_le hlt HBW.out.size) (fun e => HP.out.ap k (HP.out.rec_.1 k e.symm) hk)).trans (HBW.out.block k hlt)
 rw [← hW3]
 have e1 := (blk_cell hb3 1).trans (show _ = some (.slice A2 kl c2) from rfl)
 have e4 := (blk_cell hb3 4).trans (show _ = some (.int .i64 ver) from rfl)
 have f4 := blk_frozen hb3 4
 have HB3 := Aside0.mk hb3
 have HR3 := Aside0.mk hR3
 have HCH3 := Aside0.mk hch3
 have HM3 := Aside0.mk hM3
 clear hb3 hs3 hR3 hch3 hM3 hW3 hD
 by_cases hn : D = 0
 ·
  subst hn
  have hkl' : kl = R.length := by have := HD.out; omega
  have HLE := Aside0.mk hkl'
  have hz : ¬ (0 : Int) < (R.length : Int) - (kl : Int) := by omega
  clear hkl'
  go_wp2
  go_ret
  have hkeep : keptR t R = R := HEQ.out HLE.out
  refine ⟨by rw [HKL.out, HLE.out]; simp, HCH3.out, ?_⟩
  rw [if_neg (by rw [HKL.out, HLE.out]; omega), hkeep]
  have hr3 := HR3.out
  rw [hkeep] at hr3
  have hkl' := HLE.out
  subst hkl'
  refine ⟨_, m1, m2, FR, FM, F1, F2, HP.out.mp.frame (fun k hk _ => HM3.out k hk) HB3.out, hr3, fun q hq => ⟨.inl (HP.out.inR q hq), Nat.lt_of_lt_of_le (HP.out.lt q (HP.out.inR q hq)).2 HCH3.out.size⟩, fun q hq => ⟨.inl (HP.out.inM q hq), Nat.lt_of_lt_of_le (HP.out.lt q (HP.out.inM q hq)).2 HCH3.out.size⟩, ⟨.inl HP.out.fg, Nat.lt_of_lt_of_le HGW.out HCH3.out.size⟩, fun q hq => ⟨hq.1.elim (fun e => (HP.out.lt q e).1) (fun e => Nat.le_trans HBS.out e), hq.2⟩, HP.out.ap, HP.out.ngR, HP.out.fine⟩
 ·
  have hlt : kl < R.length := by have := HD.out; omega
  have HLT := Aside0.mk hlt
  have hz : (0 : Int) < (R.length : Int) - (kl : Int) := by omega
  have e2 := (blk_cell HB3.out 2).trans (show _ = some m1 from rfl)
  have e3 := (blk_cell HB3.out 3).trans (show _ = some m2 from rfl)
  have f2 := blk_frozen HB3.out 2
  have f3 := blk_frozen HB3.out 3
  have hw4 : wrap64 (ver + 1) = ver + 1 := IntWalk.wrap64_in _ (by have := HV.out; omega)
  go_upto_region 9 with (fail)
  obtain ⟨W4, hW4⟩ : ∃ W4, W4 = ((W3.setCell ⟨g, 4, none⟩ (.int .i64 (ver + 1))).setCell ⟨g, 2, none⟩ (.map none)).setCell ⟨g, 3, none⟩ (.map none) := ⟨_, rfl⟩
  have hb4 : W4.heap[g]? = some (.cells (stC most (.slice A2 kl c2) (.map none) (.map none) (ver + 1)) 81 (0, 0)) := hW4 ▸ blk_set (blk_set (blk_set HB3.out 4 _) 2 _) 3 _
  have hR4 : kRc.R 36 W4 base FR (.slice A2 kl c2) (keptR t R) := hW4 ▸ Kd.R_set (Kd.R_set (Kd.R_set HR3.out HB3.out (by decide) 4 _) (blk_set HB3.out 4 _) (by decide) 2 _) (blk_set (blk_set HB3.out 4 _) 2 _) (by decide) 3 _
  have hch4 : Chg F w W4 := hW4 ▸ (((HCH3.out.trans (Chg.setCell (F := F) HP.out.fg _) (fun q hq => .inl hq)).trans (Chg.setCell (F := F) HP.out.fg _) (fun q hq => .inl hq)).trans (Chg.setCell (F := F) HP.out.fg _) (fun q hq => .inl hq))
  rw [← hW4]
  have hg4 : g < W4.heap.size := blk_lt hb4
  have hM4 : Mp W4 base (fun q => W4.heap.size ≤ q) g most (.slice A2 kl c2) (ver + 1) [] 0 (.map none) (.map none) (fun _ => False) (fun _ => False) :=
   ⟨hb4, MRow.nil _ _ _ _ _ _ _ _ _ (fun _ _ => rfl), MRow.nil _ _ _ _ _ _ _ _ _ (fun _ _ => rfl), fun _ h => h.elim, fun _ h => h.elim, fun _ h => h.elim, fun h => by omega⟩
  have e41 := (blk_cell hb4 1).trans (show _ = some (.slice A2 kl c2) from rfl)
  have HR4 := Aside0.mk hR4
  have HCH4 := Aside0.mk hch4
  have HM4 := Aside0.mk hM4
  have HG4 := Aside0.mk hg4
  have hRC := (Kd.R_reads' hR4).2.2
  have HRC4 := Aside0.mk (show Kd.C kRc W4 A2 (keptR t R).length (keptR t R) from HKL.out.symm ▸ hRC)
  clear hW4 hb4 hR4 hch4 hM4 hg4 hRC HB3 HR3 HCH3 HM3 HR2 HDEL HG1 HBW HGB e1 e2 e3 e4 f2 f3 f4 hn hlt
  go_wp2
  go_loopw [53] (fun v53 wr => ∃ k : Nat, k ≤ kl ∧ v53 = .int .i64 k ∧ Aside0 (∃ m1 m2 F1 F2, Mp wr base (fun q => W4.heap.size ≤ q) g most (.slice A2 kl c2) (ver + 1) ((keptR t R).take k) k m1 m2 F1 F2) ∧ Aside0 (Chg (fun q => q = g ∨ W4.heap.size ≤ q) W4 wr)) (fun v53 _ => kl - (intOf v53).toNat)
  case atStart => exact ⟨0, Nat.zero_le _, rfl, ⟨_, _, _, _, HM4.out⟩, ⟨Chg.refl _ _⟩⟩
  case round =>
   obtain ⟨k, hk, rfl, HM, HC⟩ := hrel
   have hrr : kRc.R 36 wr base FR (.slice A2 kl c2) (keptR t R) := Kd.R_step HR4.out (fun q hq hql => HC.out.block q hql (fun e => e.elim (fun e => HP.out.ngR (e ▸ hq)) (fun e => by omega)))
   have HRR := Aside0.mk hrr
   clear hrr
   by_cases hlt : k < kl
   ·
    have hkk : k < (keptR t R).length := by rw [HKL.out]; exact hlt
    obtain ⟨ad, B, cb, rfl, hok, hcell, hcb, hCa⟩ := rec_at (Kd.R_reads' HRR.out).2.2 k hkk
    obtain ⟨gr, rfl⟩ := R_addr HRR.out
    have hbl : ((k : Nat) : Int) < (kl : Int) := by omega
    have hrow : wr.rangeAt gr (k * 40) ((keptR t R)[k].x.cells (.slice B (keptR t R)[k].a.length cb)).toList := fun j u hu => by
     have h1 := hcell j u hu
     rwa [Addr.add_mid, Nat.zero_add] at h1
    have htk : (keptR t R).take (k + 1) = (keptR t R).take k ++ [(keptR t R)[k]] := List.take_succ_eq_append_getElem hkk
    have hfx := HKM.out _ (List.getElem_mem hkk)
    obtain ⟨x, hx⟩ : ∃ x, x = (keptR t R)[k] := ⟨_, rfl⟩
    rw [← hx] at hok hrow hcb hCa htk hfx
    have hs := Rc.size hok (.slice B x.a.length cb)
    have h1c : (x.x.cells (.slice B x.a.length cb)).all (·.oneCell') = true := Rc.ones x.x rfl
    obtain ⟨cs, hcs⟩ : ∃ cs, cs = x.x.cells (.slice B x.a.length cb) := ⟨_, rfl⟩
    rw [← hcs] at hrow hs h1c
    have HCS := Aside0.mk hcs
    have HROW := Aside0.mk hrow
    have HCB := Aside0.mk hcb
    have HCW := Aside0.mk hCa
    have HX := Aside0.mk hfx
    have HTK := Aside0.mk htk
    have H1C := Aside0.mk h1c
    have hw : wrap64 ((k : Int) + 1) = (k : Int) + 1 := by unfold wrap64; omega
    clear hcell hCa hcs hrow hcb hok hx h1c htk hfx
    go_wp2_with (refine wpList_load_mid rfl 36 (.tmp 55) rfl gr (k * 40) rfl cs.toList _ HROW.out hu36 rfl (by rw [Array.length_toList, hs]; kernel_rfl) (Aside0.out ?_))
    refine ⟨?_⟩
    go_wp2_with (refine wpList_store_rowTo rfl 36 (.tmp 7) (.tmp 56) rfl rfl wr.heap.size cs rfl rfl 36 z36 (blk_new wr (.cells z36 36)) (by rw [hs]; kernel_rfl) (by rw [hs]; rfl) H1C.out (Aside0.out ?_))
    refine ⟨?_⟩
    have HW : Aside0 (((wr.alloc (.cells z36 36)).setRow wr.heap.size cs).heap[wr.heap.size]? = some (.cells cs 36 (0, 0)) ∧ Below wr.heap.size wr ((wr.alloc (.cells z36 36)).setRow wr.heap.size cs)) :=
     ⟨blk_setRow (blk_new wr _), below_setRow (below_alloc (Below.refl _ _) _) (Nat.le_refl _) _⟩
    obtain ⟨W1, hW1⟩ : ∃ W1, W1 = (wr.alloc (.cells z36 36)).setRow wr.heap.size cs := ⟨_, rfl⟩
    rw [← hW1] at HW
    unfold z36 at hW1
    rw [← hW1]
    clear hW1
    refine wpList_nil ?_
    go_wp2_with (refine wpList_load_row rfl 36 (.tmp 7) rfl wr.heap.size rfl 36 cs (0, 0) _ HW.out.1 hu36 rfl (by rw [hs]; kernel_rfl) (Aside0.out ?_))
    refine ⟨?_⟩
    go_wp2_with fail
    obtain ⟨m1', m2', F1', F2', hM⟩ := HM.out
    have hMp : Mp W1 base (fun q => W4.heap.size ≤ q) g most (.slice (some ⟨gr, 0, none⟩) kl c2) (ver + 1) ((keptR t R).take k) k m1' m2' (fun q => F1' q ∧ base ≤ q ∧ q < wr.heap.size) (fun q => F2' q ∧ base ≤ q ∧ q < wr.heap.size) := (hM.bound.frame (fun q hq hql => HW.out.2.block q hql) (blk_below hM.blk HW.out.2)).mono (fun q hq => hq.1) (fun h => by have := HG4.out; omega)
    have hlen : ((keptR t R).take k).length < 1099511627776 := by rw [List.length_take]; have := HRL.out; have := HLT.out; omega
    refine (HCS.out ▸ note_walk g most _ (ver + 1) ((keptR t R).take k) k m1' m2' (fun q => W4.heap.size ≤ q) _ _ x B cb W1 base hMp HX.out (Kd.C_below HCW.out HW.out.2) HCB.out (by have := HRL.out; have := HLT.out; omega) hlen (Nat.le_trans HBS.out (Nat.le_trans HCH4.out.size (Nat.le_trans HC.out.size HW.out.2.size)))).mono ?_
    rintro e w5 ⟨⟨u, rfl⟩, m1'', m2'', F1'', F2'', hM5, hch5⟩
    have hsz := HC.out.size
    have HM5 := Aside0.mk (hM5.mono (G := fun q => W4.heap.size ≤ q) (fun q hq => hq.elim id (fun e => by have := HW.out.2.size; omega)) (fun h => by have := HG4.out; omega))
    have HCH5 : Aside0 (Chg (fun q => q = g ∨ W4.heap.size ≤ q) W4 w5) := ⟨(HC.out.then_below HW.out.2).trans hch5 (fun q hq => hq.elim (fun e => .inl (.inl e)) (fun e => .inl (.inr (e.elim (fun e => hM.in1 q e.1) (fun e => hM.in2 q e.1)))))⟩
    rw [← HTK.out] at HM5
    clear hM hMp hM5 hch5 hsz hlen
    go_wp2_with fail
    go_roundw
    case rel => exact ⟨k + 1, by omega, by simp [hw], ⟨_, _, _, _, HM5.out⟩, HCH5⟩
    case measure => simp [intOf, hw]; omega
   ·
    obtain rfl : k = kl := by omega
    have hz2 : ¬ (k : Int) < (k : Int) := by omega
    go_wp2
    go_ret
    obtain ⟨m1', m2', F1', F2', hM⟩ := HM.out
    have hall : (keptR t R).take k = keptR t R := List.take_of_length_le (by rw [HKL.out]; exact Nat.le_refl _)
    rw [hall] at hM
    have hch := HCH4.out.trans (G := fun q => q = g ∨ W4.heap.size ≤ q) HC.out (fun q hq => hq.elim (fun e => .inl (e ▸ HP.out.fg)) (fun e => .inr (Nat.le_trans HCH4.out.size e)))
    have h4 := HCH4.out.size
    have hrs := HC.out.size
    refine ⟨by rw [HKL.out]; refine congrArg _ ?_; show Value.int .i64 ((R.length : Int) - (k : Int)) = _; rw [Int.natCast_sub (Nat.le_of_lt HLT.out)], hch, ?_⟩
    rw [if_pos (by rw [HKL.out]; exact HLT.out)]
    have hkl := HKL.out
    generalize hKR : keptR t R = KR at hM hkl HRR HKM ⊢
    subst hkl
    refine ⟨_, m1', m2', FR, (fun q => W4.heap.size ≤ q ∧ base ≤ q ∧ q < wr.heap.size), _, _, hM.bound, HRR.out, fun q hq => ⟨.inl (HP.out.inR q hq), Nat.lt_of_lt_of_le (HP.out.lt q (HP.out.inR q hq)).2 hch.size⟩, fun q hq => ⟨.inr (Nat.le_trans h4 hq.1), hq.2.2⟩, ⟨.inl HP.out.fg, Nat.lt_of_lt_of_le HGW.out hch.size⟩, fun q hq => ⟨hq.1.elim (fun e => (HP.out.lt q e).1) (fun e => Nat.le_trans HBS.out e), hq.2⟩, fun q hq hq2 => ?_, HP.out.ngR, HKM.out⟩
    have := (HP.out.lt q (HP.out.inR q hq)).2
    have := hq2.1
    omega
end Go.Proofs.YtefeibndnghejaaGreatDoor.Pr
end
section
set_option linter.unusedVariables false
set_option linter.unusedSimpArgs false
namespace Go.Proofs.YtefeibndnghejaaGreatDoor.Pr
open Go.RowKit Go.Shelf Go.Proofs.YtefeibndnghejaaGreatDoorW.PrintWords Go.Proofs.YtefeibndnghejaaGreatDoorW.PrintLast Go.Proofs.YtefeibndnghejaaGreatDoorW.PrintMore
attribute [local go_sem] Oper.semAt_some
theorem nil_gives (n Bs : Nat) (w : World) (hBs : w.cell? ⟨Bs, 0, none⟩ = some (.pointer none)) (Kp : World → World → Prop) (Pr : Rg → World → World → Prop) (N : Nat) :
  Gives Fence.wide n Tryz.prog 60 #[.pointer (some ⟨Bs, 0, none⟩)] Rg.args Kp (fun _ _ _ => False) (fun xs => xs = []) (fun _ => False) N w := by
 intro l J Jx W hb _ hJ
 exact (all1_nil Fence.wide n trivial rfl l Bs W ((hb.cell (World.block_lt_of_cell? w _ hBs)).trans hBs)).mono fun e W' ⟨hv, hw⟩ => ⟨hv, .inl ⟨[], rfl, hw ▸ hJ⟩⟩
def SNI (w : World) (fv : Value) (pre : List Rg) (W : World) : Prop := (Boxed W (w.heap.size + 1) 29 (.slice none 0 0) ∧ Boxed W w.heap.size 72 fv) ∧ Below w.heap.size w W
theorem SNI_own (w : World) (fv : Value) (B : Nat) (hB : w.heap.size ≤ B) : OwnFrom B (SNI w fv) :=
 OwnFrom.and (OwnFrom.and (Own.from (boxed_own _ 29 (fun _ => .slice none 0 0)) _) (Own.from (boxed_own _ 72 (fun _ => fv)) _)) (ownFrom_below (Nat.le_refl _) hB)
set_option maxRecDepth 100000 in
set_option maxHeartbeats 8000000 in
theorem some_nil (fi : FuncId) (caps : Array Value) (w : World) :
  Calls Tryz.prog 36 #[.pointer none, .func (.func fi) #[] caps] w fun e w' => e = .returned (.slice none 0 0) ∧ Below w.heap.size w w' := by
 have hu36 := Tryz.underlying36
 refine (callsIn_wide (n := 5)).1 ?_
 refine callsIn_of_wp_marks Tryz.func36 rfl trivial ?_ rfl
 simp only [Tryz.ntmps36, List.size_toArray, List.length_cons, List.length_nil, Nat.reduceAdd, Nat.reduceSub, Array.replicate_succ, Array.replicate_zero, List.push_toArray, List.append_toArray, List.nil_append, List.cons_append]
 gi_wp2_with (refine ⟨trivial, ?_⟩; gi_at_call 31; refine (all_in Fence.wide _ trivial rfl _ _).mono ?_; rintro e w' ⟨rfl, rfl⟩)
 have bF := Boxed.new w 72 (.func (.func fi) #[] caps)
 have bO := Boxed.new (w.alloc (.cells #[.func (.func fi) #[] caps] 72)) 29 (.slice none 0 0)
 have bG := Boxed.new ((w.alloc (.cells #[.func (.func fi) #[] caps] 72)).alloc (.cells #[.slice none 0 0] 29)) 23 (.pointer none)
 simp only [World.size_alloc] at bG bO
 have hB0 : Below w.heap.size w (((w.alloc (.cells #[.func (.func fi) #[] caps] 72)).alloc (.cells #[.slice none 0 0] 29)).alloc (.cells #[.pointer none] 23)) := below_alloc (below_alloc (below_alloc (Below.refl _ _) _) _) _
 refine range_gives (F := Fence.wide) rfl (by omega) (gf := 60) (lb := #[.pointer (some ⟨w.heap.size + 1 + 1, 0, none⟩)]) rfl trivial (enters_of Tryz.func60 (by kernel_rfl) rfl)
  (nil_gives _ (w.heap.size + 1 + 1) _ bG.cell (fun W W' => Below w.heap.size W W') (fun _ _ _ => False) 0) belowK_t (belowK_b (by simp; omega)) (Below.refl _ _) (fun _ => rfl)
  (SNI w (.func (.func fi) #[] caps)) (fun _ _ _ => False) (SNI_own w _ _ (by simp; omega)) (fun _ _ _ _ _ hs _ _ => hs) ⟨⟨bO.alloc _, (bF.alloc _).alloc _⟩, hB0⟩ ?round ?done ?stop
 case stop =>
  rintro D c pre W _ h _ _
  exact h.elim
 case round =>
  rintro lr pre x W0 W hl1 hl0 hl2 hI hbW hf hlen
  exact hf.elim
 case done =>
  rintro D zs W hD hzs ⟨⟨hv, hfb⟩, hbel⟩ hK
  simp only [World.size_alloc] at hD
  have hc := hv.cell
  have HV := Aside0.mk (And.intro hv (And.intro hbel hK))
  clear hfb hbel hK hzs bF bO bG hB0 hv
  gi_wp2_with (refine ⟨trivial, ?_⟩; gi_at_call 67; refine ((callsIn_wide (n := 4)).2 (sort1_walk none 0 0 W (Nat.zero_le _))).mono ?_; rintro e w2 ⟨rfl, rfl⟩)
  refine ⟨by simp, .inl ⟨_, _, rfl, run_takeDeferred HV.out.2.2, ?_⟩⟩
  refine ⟨_, results_tmp rfl _ _ _, rfl, ?_⟩
  exact HV.out.2.1.trans (belowK_b (w := w) (Nat.le_refl _) _ D _ _ (by omega) HV.out.2.2 rfl rfl)
set_option maxRecDepth 100000 in
set_option maxHeartbeats 4000000 in
theorem select_nil (kind : Int) (name : ByteArray) (m : Value) (fr too : Int) (hm : m.oneCell' = true) (w : World) :
  Calls Tryz.prog 11 #[.pointer none, .int .i64 kind, .string name, m, .int .i64 fr, .int .i64 too] w fun e w' => e = .returned (.slice none 0 0) ∧ Below w.heap.size w w' := by
 obtain ⟨W1, hW1⟩ : ∃ W1, W1 = ((((w.alloc (.cells #[.int .i64 kind] 3)).alloc (.cells #[.string name] 9)).alloc (.cells #[m] 40)).alloc (.cells #[.int .i64 fr] 2)).alloc (.cells #[.int .i64 too] 2) := ⟨_, rfl⟩
 have HB := Aside0.mk (show Below w.heap.size w W1 from hW1 ▸ below_alloc (below_alloc (below_alloc (below_alloc (below_alloc (Below.refl _ _) _) _) _) _) _)
 have HW1 := Aside0.mk hW1
 clear hW1
 go_enter Tryz.func11, Tryz.ntmps11
 go_wp2_with (go_at_call 36; rw [← HW1.out]; refine (some_nil _ _ W1).mono ?_; rintro e w2 ⟨rfl, hb2⟩; have HB2 := Aside0.mk (below_step HB.out hb2); clear hb2)
 go_ret
 exact ⟨rfl, HB2.out⟩
set_option maxRecDepth 100000 in
set_option maxHeartbeats 4000000 in
theorem trace_nil (tr : List Int) (htr : tr.length = 16) (w : World) :
  Calls Tryz.prog 29 #[.pointer none, .agg (tr.map (Value.int .u8)).toArray] w fun e w' => e = .returned (.slice none 0 0) ∧ Below w.heap.size w w' := by
 obtain ⟨a0, a1, a2, a3, a4, a5, a6, a7, a8, a9, a10, a11, a12, a13, a14, a15, rfl⟩ := list16 tr htr
 simp only [List.map_cons, List.map_nil]
 have HB := Aside0.mk (show Below w.heap.size w (w.alloc (.cells #[.int .u8 a0, .int .u8 a1, .int .u8 a2, .int .u8 a3, .int .u8 a4, .int .u8 a5, .int .u8 a6, .int .u8 a7, .int .u8 a8, .int .u8 a9, .int .u8 a10, .int .u8 a11, .int .u8 a12, .int .u8 a13, .int .u8 a14, .int .u8 a15] 33)) from below_alloc (Below.refl _ _) _)
 go_enter Tryz.func29, Tryz.ntmps29
 go_wp2_with (go_at_call 36; refine (some_nil _ _ _).mono ?_; rintro e w2 ⟨rfl, hb2⟩; have HB2 := Aside0.mk (below_step HB.out hb2); clear hb2)
 go_ret
 exact ⟨rfl, HB2.out⟩
set_option maxRecDepth 100000 in
set_option maxHeartbeats 4000000 in
theorem put_nil (cs : Array Value) (hs : cs.size = 40) (w : World) : Calls Tryz.prog 32 #[.pointer none, .agg cs] w fun e w' => e = .returned (.int .i64 2) ∧ Below w.heap.size w w' := by
 obtain ⟨W1, hW1⟩ : ∃ W1, W1 = ((w.alloc (.cells #[.pointer none] 23)).alloc (.cells cs 36)).alloc (.cells #[.int .i64 0] 64) := ⟨_, rfl⟩
 have hbw : Below w.heap.size w W1 := hW1 ▸ below_alloc (below_alloc (below_alloc (Below.refl _ _) _) _) _
 have hsb0 : W1.heap[w.heap.size]? = some (.cells #[.pointer none] 23 (0, 0)) := hW1 ▸ blk_alloc (blk_alloc (blk_new w _) _) _
 have hwb0 : W1.heap[w.heap.size + 1 + 1]? = some (.cells #[.int .i64 0] 64 (0, 0)) := by
  rw [hW1]
  have := blk_new ((w.alloc (.cells #[.pointer none] 23)).alloc (.cells cs 36)) (.cells #[.int .i64 0] 64)
  simpa using this
 have hsc : W1.cell? ⟨w.heap.size, 0, none⟩ = some (.pointer none) := (blk_cell hsb0 0).trans rfl
 have hwc : W1.cell? ⟨w.heap.size + 1 + 1, 0, none⟩ = some (.int .i64 0) := (blk_cell hwb0 0).trans rfl
 have hwf : W1.frozen? ⟨w.heap.size + 1 + 1, 0, none⟩ = false := blk_frozen hwb0 0
 have HBW : Aside0 (Below w.heap.size w (W1.setCell ⟨w.heap.size + 1 + 1, 0, none⟩ (.int .i64 2))) := ⟨hbw.setCell (by show w.heap.size ≤ w.heap.size + 1 + 1; omega) _⟩
 have HCL := Aside0.mk (blk_cell (blk_set hwb0 0 (.int .i64 2)) 0)
 clear hbw hsb0 hwb0
 go_enter_defers Tryz.func32, Tryz.ntmps32
 go_upto_region 1 with (fail)
 rw [← hW1]
 clear hW1
 go_wp2_with fail
 exact ⟨_, leave_cell rfl _ _ (w.heap.size + 1 + 1) 2 rfl HCL.out, rfl, HBW.out⟩
set_option maxRecDepth 100000 in
set_option maxHeartbeats 8000000 in
theorem len_nil (kind : Int) (w : World) : Calls Tryz.prog 33 #[.pointer none, .int .i64 kind] w fun e w' => e = .returned (.int .i64 0) ∧ Below w.heap.size w w' := by
 refine (callsIn_wide (n := 5)).1 ?_
 refine callsIn_of_wp_marks Tryz.func33 rfl trivial ?_ rfl
 simp only [Tryz.ntmps33, List.size_toArray, List.length_cons, List.length_nil, Nat.reduceAdd, Nat.reduceSub, Array.replicate_succ, Array.replicate_zero, List.push_toArray, List.append_toArray, List.nil_append, List.cons_append]
 gi_wp2_with (refine ⟨trivial, ?_⟩; gi_at_call 31; refine (all_in Fence.wide _ trivial rfl _ _).mono ?_; rintro e w' ⟨rfl, rfl⟩)
 have bK := Boxed.new w 3 (.int .i64 kind)
 have bN := Boxed.new (w.alloc (.cells #[.int .i64 kind] 3)) 3 (.int .i64 0)
 have bG := Boxed.new ((w.alloc (.cells #[.int .i64 kind] 3)).alloc (.cells #[.int .i64 0] 3)) 23 (.pointer none)
 simp only [World.size_alloc] at bN bG
 have hB0 : Below w.heap.size w (((w.alloc (.cells #[.int .i64 kind] 3)).alloc (.cells #[.int .i64 0] 3)).alloc (.cells #[.pointer none] 23)) := below_alloc (below_alloc (below_alloc (Below.refl _ _) _) _) _
 refine range_gives (F := Fence.wide) rfl (by omega) (gf := 60) (lb := #[.pointer (some ⟨w.heap.size + 1 + 1, 0, none⟩)]) rfl trivial (enters_of Tryz.func60 (by kernel_rfl) rfl)
  (nil_gives _ (w.heap.size + 1 + 1) _ bG.cell (fun W W' => Below w.heap.size W W') (fun _ _ _ => False) 0) belowK_t (belowK_b (by simp; omega)) (Below.refl _ _) (fun _ => rfl)
  (LI w kind) (fun _ _ _ => False) (LI_own w kind _ (by simp; omega)) (fun _ _ _ _ _ hs _ _ => hs) ⟨⟨(bK.alloc _).alloc _, bN.alloc _⟩, hB0⟩ ?round ?done ?stop
 case stop =>
  rintro D c pre W _ h _ _
  exact h.elim
 case round =>
  rintro lr pre x W0 W hl1 hl0 hl2 hI hbW hf hlen
  exact hf.elim
 case done =>
  rintro D zs W hD hzs ⟨⟨hk, hn⟩, hB⟩ hK
  have hc := hn.cell
  have HB := Aside0.mk hB
  have HK := Aside0.mk hK
  subst hzs
  have hc0 : W.cell? ⟨w.heap.size + 1, 0, none⟩ = some (.int .i64 0) := hc
  clear hn hk hB hc bK bN bG hB0
  gi_wp2
  refine ⟨by simp, .inl ⟨_, _, rfl, run_takeDeferred HK.out, ?_⟩⟩
  refine ⟨_, results_tmp rfl _ _ _, rfl, ?_⟩
  exact HB.out.trans (belowK_b (w := w) (Nat.le_refl _) W D _ _ (by simp at hD; omega) HK.out rfl rfl)
end Go.Proofs.YtefeibndnghejaaGreatDoor.Pr
end
section
set_option linter.unusedVariables false
set_option linter.unusedSimpArgs false
namespace Go.Proofs.YtefeibndnghejaaGreatDoor.Pr
open Go.RowKit Go.Proofs.YtefeibndnghejaaGreatDoorW.PrintWords Go.Proofs.YtefeibndnghejaaGreatDoorW.PrintLast Go.Proofs.YtefeibndnghejaaGreatDoorW.PrintMore
attribute [local go_sem high] eqA33 eqA34
def rsC (most : Int) (l : Value) (ver : Int) : Array Value := #[.int .i64 most, l, .int .i64 ver]
structure RsP (w : World) (base : Nat) (F : Nat → Prop) (g : Nat) (most ver : Int) (R : List Rd) (l : Value) : Prop where
  blk : w.heap[g]? = some (.cells (rsC most l ver) 31 (0, 0))
  rec_ : kRc.R 36 w base F l R
  ng : ¬ F g
  ge : base ≤ g
  lt : ∀ q, F q → base ≤ q ∧ q < w.heap.size
  fine : ∀ r ∈ R, r.fine
def Rs (w : World) (base : Nat) (F : Nat → Prop) (g : Nat) (most ver : Int) (R : List Rd) : Prop := ∃ l, RsP w base F g most ver R l
theorem RsP.kept {w w' : World} {base : Nat} {F : Nat → Prop} {g : Nat} {most ver : Int} {R : List Rd} {l : Value} (h : RsP w base F g most ver R l) (hb : Below w.heap.size w w') : RsP w' base F g most ver R l :=
 ⟨blk_below h.blk hb, Kd.R_below h.rec_ hb, h.ng, h.ge, fun q hq => ⟨(h.lt q hq).1, Nat.lt_of_lt_of_le (h.lt q hq).2 hb.size⟩, h.fine⟩
theorem RsP.newF {w w' : World} {base : Nat} {F : Nat → Prop} {g : Nat} {most ver : Int} {R : List Rd} {l : Value} (h : RsP w base F g most ver R l) (hb : Below w.heap.size w w') (hbase : base ≤ w.heap.size) : RsP w' base (NewF F w w') g most ver R l :=
 ⟨blk_below h.blk hb, Kd.R_mono (Kd.R_below h.rec_ hb) (fun q hq => ⟨.inl hq, Nat.lt_of_lt_of_le (h.lt q hq).2 hb.size⟩), fun e => e.1.elim h.ng (fun e => by have := blk_lt h.blk; omega), h.ge, fun q hq => ⟨hq.1.elim (fun e => (h.lt q e).1) (fun e => Nat.le_trans hbase e), hq.2⟩, h.fine⟩
end Go.Proofs.YtefeibndnghejaaGreatDoor.Pr
end
section
set_option linter.unusedVariables false
set_option linter.unusedSimpArgs false
namespace Go.Proofs.YtefeibndnghejaaGreatDoor.Pr
open Go.RowKit Go.Proofs.YtefeibndnghejaaGreatDoorW.PrintWords Go.Proofs.YtefeibndnghejaaGreatDoorW.PrintLast Go.Proofs.YtefeibndnghejaaGreatDoorW.PrintMore
theorem rec_row {w : World} {base : Nat} {ok : Nat → Prop} {A : Option Addr} {n c : Nat} {R : List Rd} (h : kRc.R 36 w base ok (.slice A n c) R) (k : Nat) (hk : k < R.length) : ∃ g B cb, A = some ⟨g, 0, none⟩ ∧ R[k].x.ok ∧ w.rangeAt g (k * 40) (R[k].x.cells (.slice B R[k].a.length cb)).toList ∧ R[k].a.length ≤ cb ∧ Kd.C k85 w B R[k].a.length R[k].a := by
 have hn := (Kd.R_reads' h).1
 subst hn
 obtain ⟨ad, B, cb, rfl, hok, hcell, hcb, hCa⟩ := rec_at (Kd.R_reads' h).2.2 k hk
 obtain ⟨g, rfl⟩ := R_addr h
 exact ⟨g, B, cb, rfl, hok, fun j u hu => by have h1 := hcell j u hu; rwa [Addr.add_mid, Nat.zero_add] at h1, hcb, hCa⟩
end Go.Proofs.YtefeibndnghejaaGreatDoor.Pr
end
section
set_option linter.unusedVariables false
set_option linter.unusedSimpArgs false
namespace Go.Proofs.YtefeibndnghejaaGreatDoor.Pr
open Go.RowKit Go.Proofs.YtefeibndnghejaaGreatDoorW.PrintWords Go.Proofs.YtefeibndnghejaaGreatDoorW.PrintLast Go.Proofs.YtefeibndnghejaaGreatDoorW.PrintMore
theorem RsP.step {w w' : World} {base : Nat} {F : Nat → Prop} {g : Nat} {most ver : Int} {R : List Rd} {l : Value} (h : RsP w base F g most ver R l) (hm : ∀ k, F k ∨ k = g → w'.heap[k]? = w.heap[k]?) (hs : w.heap.size ≤ w'.heap.size) : RsP w' base F g most ver R l :=
 ⟨(hm g (.inr rfl)).trans h.blk, Kd.R_step h.rec_ (fun k hk _ => hm k (.inl hk)), h.ng, h.ge, fun q hq => ⟨(h.lt q hq).1, Nat.lt_of_lt_of_le (h.lt q hq).2 hs⟩, h.fine⟩
theorem Rs.step {w w' : World} {base : Nat} {F : Nat → Prop} {g : Nat} {most ver : Int} {R : List Rd} (h : Rs w base F g most ver R) (hm : ∀ k, F k ∨ k = g → w'.heap[k]? = w.heap[k]?) (hs : w.heap.size ≤ w'.heap.size) : Rs w' base F g most ver R := h.imp fun _ h => h.step hm hs
structure Two (w : World) (base : Nat) (F F' : Nat → Prop) (g g' : Nat) (most ver : Int) (R : List Rd) : Prop where
  st : St w base F g most ver R
  rs : Rs w base F' g' most ver R
  ap : ∀ q, F q → ¬ (F' q ∨ q = g')
theorem Two.below {w w' : World} {base : Nat} {F F' : Nat → Prop} {g g' : Nat} {most ver : Int} {R : List Rd} (h : Two w base F F' g g' most ver R) (hb : Below w.heap.size w w') : Two w' base F F' g g' most ver R :=
 ⟨h.st.below hb, h.rs.imp fun _ h => h.kept hb, h.ap⟩
theorem Rs.lt {w : World} {base : Nat} {F : Nat → Prop} {g : Nat} {most ver : Int} {R : List Rd} (h : Rs w base F g most ver R) : ∀ q, F q ∨ q = g → base ≤ q ∧ q < w.heap.size := by
 obtain ⟨l, h⟩ := h
 rintro q (hq | rfl)
 ·
  exact h.lt q hq
 ·
  exact ⟨h.ge, blk_lt h.blk⟩
end Go.Proofs.YtefeibndnghejaaGreatDoor.Pr
end
