import Derived.Test.YtkedidjjhhjdbaaGreatDoorV0
import Derived.Test.YtkedidjjhhjdbaaGreatDoorV15
import Derived.Test.YtkedidjjhhjdbaaGreatDoorV25
import Derived.Test.YtkedidjjhhjdbaaGreatDoorV17
import Derived.Test.YtkedidjjhhjdbaaGreatDoorV26
import Derived.Test.YtkedidjjhhjdbaaGreatDoorV18
import Derived.Test.YtkedidjjhhjdbaaGreatDoorV19
section
set_option linter.unusedVariables false
set_option linter.unusedSimpArgs false
namespace Go.Proofs.YtkedidjjhhjdbaaGreatDoor.Pr
open Go.RowKit Go.Proofs.YtkedidjjhhjdbaaGreatDoorW.PrintWords Go.Proofs.YtkedidjjhhjdbaaGreatDoorW.PrintLast Go.Proofs.YtkedidjjhhjdbaaGreatDoorW.PrintMore
theorem wr_of_33 {w : World} {base : Nat} {ok : Nat → Prop} {v : Value} {xs : List S33} (h : WRow w base ok v xs) : Wr 33 3 base w.heap.size w v := by
 obtain ⟨A, c, rfl, hc, hm, h⟩ := h
 refine ⟨A, _, c, rfl, hc, hm, ?_⟩
 rcases h with rfl | ⟨g, cur, rfl, _, hb, hh, ht⟩
 · exact .inl rfl
 refine .inr ⟨g, cur, rfl, hb, blk_lt hh, hh, ?_⟩
 have := congrArg List.length ht
 rw [List.length_take, flat_len 3 (fun _ => rfl)] at this
 simp at this
 omega
theorem wr_of_R {α : Type} {d : Kd α} {e sz : Nat} {w : World} {base : Nat} {ok : Nat → Prop} {v : Value} {xs : List α} (h : d.R e w base ok v xs) (hs : d.sz = sz) (hm : xs.length ≤ 9223372036854775807) : Wr e sz base w.heap.size w v := by
 obtain ⟨_, inner, ho, _⟩ := h
 rcases ho.2 with ⟨rfl, h0⟩ | ⟨g, cap, cur, rfl, hb, hh, hnc, hcm, hcs, ht⟩
 · exact ⟨none, 0, 0, rfl, Nat.le_refl _, Nat.zero_le _, .inl rfl⟩
 refine ⟨_, _, cap, rfl, hnc, hm, .inr ⟨g, cur, rfl, hb, blk_lt hh, hh, ?_⟩⟩
 rw [hcs, hs]; exact Nat.mul_le_mul_right _ hnc
theorem R_len {α : Type} {d : Kd α} {e : Nat} {w : World} {base : Nat} {ok : Nat → Prop} {v : Value} {xs : List α} (h : d.R e w base ok v xs) : xs.length ≤ 9223372036854775807 := by
 obtain ⟨A, c, rfl⟩ := Kd.R_slice h
 exact (Kd.R_reads' h).2.2.2.1
theorem row_cells {α : Type} {d : Kd α} {e : Nat} {w : World} {base : Nat} {ok : Nat → Prop} {A : Option Addr} {n c : Nat} {xs : List α} (h : d.R e w base ok (.slice A n c) xs) (hn : 0 < n) :
  ∃ g cur ok', A = some ⟨g, 0, none⟩ ∧ w.heap[g]? = some (.cells cur e (0, 0)) ∧ n = xs.length ∧ ∀ i, i < n → ∃ x cs, d.M w base ok' x cs ∧ ∀ j, j < d.sz → cur[i * d.sz + j]? = cs[j]? := by
 have hl := (Kd.R_reads' h).1; subst hl
 obtain ⟨_, inner, ho, hr⟩ := h
 rcases ho.2 with ⟨hv, h0⟩ | ⟨g, cap, cur, hv, hb, hh, hnc, hcm, hcs, ht⟩
 · omega
 injection hv with h1 h2 h3
 subst h1
 refine ⟨g, cur, (fun k => ok k ∧ some k ≠ (Value.slice (some ⟨g, 0, none⟩) xs.length c).ownBlock), rfl, hh, rfl, fun i hi => ?_⟩
 have hx : xs[i]? = some xs[i] := List.getElem?_eq_getElem hi
 have hM := hr.2 i _ hx
 refine ⟨xs[i], (inner.drop (i * d.sz)).take d.sz, hM, fun j hj => ?_⟩
 rw [List.getElem?_take, if_pos hj, List.getElem?_drop, ← ht, List.getElem?_take]
 have hlt : i * d.sz + j < xs.length * d.sz := by
  have h1 : (i + 1) * d.sz ≤ xs.length * d.sz := Nat.mul_le_mul_right _ hi
  rw [Nat.add_mul, Nat.one_mul] at h1; omega
 rw [if_pos hlt, Array.getElem?_toList]
theorem spl_of_views {w : World} {base : Nat} {ok : Nat → Prop} {A : Option Addr} {n c : Nat} {xs : List S31} (h : Kd.R kV 31 w base ok (.slice A n c) xs) (hn : 0 < n) :
  ∃ g f1 f2, A = some ⟨g, 0, none⟩ ∧ Spl 31 3 1 2 base w.heap.size n f1 f2 g w := by
 obtain ⟨g, cur, ok', rfl, hh, _, hel⟩ := row_cells h hn
 have hc : ∀ i, i < n → ∃ v1 v2, cur[i * 3 + 1]? = some v1 ∧ cur[i * 3 + 2]? = some v2 ∧ Wr 33 3 base w.heap.size w v1 ∧ Wr 9 1 base w.heap.size w v2 := by
  intro i hi
  obtain ⟨x, cs, hM, hcs⟩ := hel i hi
  obtain ⟨v1, v2, rfl, h1, h2⟩ := kV_openM hM
  exact ⟨v1, v2, hcs 1 (show 1 < 3 by decide), hcs 2 (show 2 < 3 by decide), wr_of_33 h1, wr_of_R h2 rfl (R_len h2)⟩
 refine ⟨g, fun i => cur.getD (i * 3 + 1) default, fun i => cur.getD (i * 3 + 2) default, rfl, ⟨cur, hh, fun i hi => ?_⟩, fun i hi => ?_, fun i hi => ?_⟩
 ·
  obtain ⟨v1, v2, e1, e2, _, _⟩ := hc i hi
  rw [Array.getD_eq_getD_getElem?, Array.getD_eq_getD_getElem?, e1, e2]
  exact ⟨rfl, rfl⟩
 rotate_left
 ·
  obtain ⟨v1, v2, e1, e2, _, h2⟩ := hc i hi
  show Wr 9 1 base w.heap.size w (cur.getD (i * 3 + 2) default)
  rw [Array.getD_eq_getD_getElem?, e2]; exact h2
 obtain ⟨v1, v2, e1, e2, h1, _⟩ := hc i hi
 show Wr 33 3 base w.heap.size w (cur.getD (i * 3 + 1) default)
 rw [Array.getD_eq_getD_getElem?, e1]; exact h1
theorem spl_of_rules {w : World} {base : Nat} {ok : Nat → Prop} {A : Option Addr} {n c : Nat} {xs : List S46} (h : Kd.R k46 46 w base ok (.slice A n c) xs) (hn : 0 < n) :
  ∃ g f1 f2, A = some ⟨g, 0, none⟩ ∧ Spl 46 5 3 4 base w.heap.size n f1 f2 g w := by
 obtain ⟨g, cur, ok', rfl, hh, _, hel⟩ := row_cells h hn
 have hc : ∀ i, i < n → ∃ v1 v2, cur[i * 5 + 3]? = some v1 ∧ cur[i * 5 + 4]? = some v2 ∧ Wr 33 3 base w.heap.size w v1 ∧ Wr 9 1 base w.heap.size w v2 := by
  intro i hi
  obtain ⟨x, cs, hM, hcs⟩ := hel i hi
  obtain ⟨v1, v2, rfl, h1, h2⟩ := k46_openM hM
  exact ⟨v1, v2, hcs 3 (show 3 < 5 by decide), hcs 4 (show 4 < 5 by decide), wr_of_R h1 rfl (R_len h1), wr_of_R h2 rfl (R_len h2)⟩
 refine ⟨g, fun i => cur.getD (i * 5 + 3) default, fun i => cur.getD (i * 5 + 4) default, rfl, ⟨cur, hh, fun i hi => ?_⟩, fun i hi => ?_, fun i hi => ?_⟩
 ·
  obtain ⟨v1, v2, e1, e2, _, _⟩ := hc i hi
  rw [Array.getD_eq_getD_getElem?, Array.getD_eq_getD_getElem?, e1, e2]
  exact ⟨rfl, rfl⟩
 rotate_left
 ·
  obtain ⟨v1, v2, e1, e2, _, h2⟩ := hc i hi
  show Wr 9 1 base w.heap.size w (cur.getD (i * 5 + 4) default)
  rw [Array.getD_eq_getD_getElem?, e2]; exact h2
 obtain ⟨v1, v2, e1, e2, h1, _⟩ := hc i hi
 show Wr 33 3 base w.heap.size w (cur.getD (i * 5 + 3) default)
 rw [Array.getD_eq_getD_getElem?, e1]; exact h1
theorem Spl.later {T st o1 o2 lo hi n : Nat} {f1 f2 : Nat → Value} {g : Nat} {W W' : World} (h : Spl T st o1 o2 lo hi n f1 f2 g W) (hg : g < hi) (hb : Below hi W W') : Spl T st o1 o2 lo hi n f1 f2 g W' := by
 have hw : ∀ {e sz : Nat} {v : Value}, Wr e sz lo hi W v → Wr e sz lo hi W' v := by
  rintro e sz v ⟨A, m, c, rfl, hc, hm, h⟩
  refine ⟨A, m, c, rfl, hc, hm, ?_⟩
  rcases h with rfl | ⟨g1, cur, rfl, h1, h2, h3, h4⟩
  · exact .inl rfl
  exact .inr ⟨g1, cur, rfl, h1, h2, (hb.block g1 h2).trans h3, h4⟩
 obtain ⟨⟨cur, hc, hf⟩, h1, h2⟩ := h
 exact ⟨⟨cur, (hb.block g hg).trans hc, hf⟩, fun i hi => hw (h1 i hi), fun i hi => hw (h2 i hi)⟩
set_option maxRecDepth 100000 in
theorem spoil_none (A : Option Addr) (c : Nat) (w : World) : Calls Tryz.prog 15 #[.slice A 0 c] w fun e w' => e = .returned (.tuple #[]) ∧ w' = w := by
 go_enter Tryz.func15, Tryz.ntmps15
 go_wp2
 refine wp_loop_rounds 1 ?_
 rw [rounds_succ]; go_wp2
 first | go_end0 | refine bodyPost_ret (results_none rfl _ _ _) rfl ?_
 exact ⟨rfl, rfl⟩
structure VwF (k : Nat) (l : List S46) (o v : ByteArray) (kd : Int) (r : List S31) : Prop where
  lent : belfryref11_Lent.f k l = some l
  pv : policy_Views.f k l o v kd = some r
  rv : belfryref11_Views.f k l o v kd = some r
  sv : belfryref11_SameViews.f k r r = some true
  same : ∀ x ∈ l, belfryref04_SameMatch.f k x.f3 x.f3 = some true ∧ belfryref11_texts.f k x.f4 x.f4 = some true
set_option maxHeartbeats 8000000 in
set_option maxRecDepth 100000 in
theorem views_walk (k kk : Nat) (A : Option Addr) (c : Nat) (l : List S46) (o v : ByteArray) (kd : Int) (w : World) (hr : Kd.C k46 w A l.length l) (hc : l.length ≤ c) (hk : belfrylaw11_known.f kk = some true)
  (h : l.length ≤ 200 → ∃ r, VwF k l o v kd r) (he : EnvW w) :
  Calls Tryz.prog 3 #[.slice A l.length c, .string o, .string v, .int .i64 kd] w fun e w' => e = .returned (.bool true) ∧ Below w.heap.size w w' := by
 have HR := Aside0.mk hr; have HE := Aside0.mk he; have HK := Aside0.mk hk; clear hr he hk; by_cases hl : l.length ≤ 200; rotate_left
 ·
  have b0 : decide (200 < (l.length : Int)) = true := decide_eq_true (by omega)
  have b1 : decide (200 < l.length) = true := decide_eq_true (by omega)
  go_enter Tryz.func3, Tryz.ntmps3
  go_wp2_with fail
  refine (known.calls kk w HK.out HE.out).mono ?_
  rintro e w1 ⟨rfl, hb⟩
  go_wp2; go_ret
  exact ⟨rfl, hb⟩
 obtain ⟨r, hF⟩ := h hl
 have HF := Aside0.mk hF
 have b0 : decide (200 < (l.length : Int)) = false := decide_eq_false (by omega)
 have b1 : decide (200 < l.length) = false := decide_eq_false (by omega)
 clear h hF
 go_enter Tryz.func3, Tryz.ntmps3
 go_wp2_with fail
 refine (belfryref11_Lent.calls k A c l l w HR.out hc HF.out.lent).mono ?_
 rintro e w1 ⟨uo, rfl, ho, hb1⟩
 have HO := Aside0.mk ho; have HB := Aside0.mk hb1; clear ho hb1
 obtain ⟨AO, cO, rfl⟩ := Kd.S_slice HO.out
 go_wp2_with fail
 refine (policy_Views.calls k AO cO l o v kd r w1 (Kd.S_reads' HO.out).2.2 (Kd.S_reads' HO.out).2.1 HF.out.pv (env_below HE.out HB.out)).mono ?_
 rintro e w2 ⟨uv, rfl, hv, hb2⟩
 have HV := Aside0.mk hv; have HB1 := Aside0.mk hb2; clear hv hb2
 obtain ⟨AV, cV, rfl⟩ := Kd.R_slice HV.out
 go_wp2_with fail
 refine (belfryref11_Views.calls k A c l o v kd r w2 (Kd.C_below HR.out (below_step HB.out HB1.out)) hc HF.out.rv).mono ?_
 rintro e w3 ⟨ur, rfl, hv3, hb3⟩
 have HU := Aside0.mk hv3
 replace HV := Aside0.mk (Kd.R_below HV.out hb3)
 replace HB1 := Aside0.mk (below_step HB1.out hb3)
 clear hv3 hb3
 obtain ⟨AU, cU, rfl⟩ := Kd.S_slice HU.out
 go_wp2_with fail
 refine (belfryref11_SameViews.calls k AV cV r AU cU r true w3 (kV_C (Kd.R_reads' HV.out).2.2) (Kd.R_reads' HV.out).2.1 (Kd.S_reads' HU.out).2.2 (Kd.S_reads' HU.out).2.1 HF.out.sv rfl).mono ?_
 rintro e w4 ⟨rfl, hb4⟩
 replace HV := Aside0.mk (Kd.R_below HV.out hb4)
 replace HB1 := Aside0.mk (below_step HB1.out hb4)
 clear hb4 HU
 obtain ⟨lo, hlo⟩ : ∃ x, x = w1.heap.size := ⟨_, rfl⟩
 obtain ⟨hi, hhi⟩ : ∃ x, x = w4.heap.size := ⟨_, rfl⟩
 have hG : ∃ g f1 f2, 0 < r.length → AV = some ⟨g, 0, none⟩ ∧ Spl 31 3 1 2 lo hi r.length f1 f2 g w4 := by
  rcases Nat.eq_zero_or_pos r.length with h0 | h0
  · exact ⟨0, fun _ => default, fun _ => default, fun h => by omega⟩
  obtain ⟨g, f1, f2, h1, h2⟩ := spl_of_views HV.out h0
  subst hlo; subst hhi
  exact ⟨g, f1, f2, fun _ => ⟨h1, h2⟩⟩
 obtain ⟨g, f1, f2, hG⟩ := hG
 have hAV : 0 < r.length → AV = some ⟨g, 0, none⟩ := fun h => (hG h).1
 have HS : Aside0 (0 < r.length → Spl 31 3 1 2 lo hi r.length f1 f2 g w4) := ⟨fun h => (hG h).2⟩
 have hrl : r.length ≤ 9223372036854775807 := R_len HV.out
 clear hG HV; go_wp2
 go_loopw [11, 12, 13] (fun v11 _ _ ws => ∃ i : Nat, i ≤ r.length ∧ v11 = .int .i64 i ∧ Aside0 (0 < r.length → Spl 31 3 1 2 lo hi r.length f1 f2 g ws) ∧ Aside0 (Chg lo hi w4 ws)) (fun v11 _ _ _ => r.length - (intOf v11).toNat)
 case atStart => exact ⟨0, Nat.zero_le _, rfl, HS, ⟨Chg.refl _ _ _⟩⟩
 case round =>
  clear HS
  obtain ⟨i, hin, rfl, HS0, HC⟩ := hrel
  by_cases hlt : i < r.length
  ·
   have b2 : decide ((i : Int) < (r.length : Int)) = true := decide_eq_true (by omega)
   have b3 : decide (i < r.length) = true := decide_eq_true hlt
   have p0 := eq_true (show (0 : Int) ≤ (i : Int) by omega)
   have q0 := eq_true (show (i : Int) < (r.length : Int) by omega)
   have HS := Aside0.mk (HS0.out (by omega))
   obtain rfl := hAV (by omega)
   obtain ⟨A1, m1, c1, e1, hmc, hmm, _⟩ := HS.out.in1 i hlt
   obtain ⟨A2, m2, c2, e2, hmc2, hmm2, _⟩ := HS.out.in2 i hlt
   clear HS0; go_wp2
   go_loopw [12] (fun v3 ws => ∃ q : Nat, q ≤ m1 ∧ v3 = .int .i64 q ∧ Aside0 (Spl 31 3 1 2 lo hi r.length f1 f2 g ws) ∧ Aside0 (Chg lo hi w4 ws)) (fun v3 _ => m1 - (intOf v3).toNat)
   case atStart => exact ⟨0, Nat.zero_le _, rfl, HS, HC⟩
   case round =>
    clear HS HC
    obtain ⟨q, hk, rfl, HS, HC⟩ := hrel
    have hx := HS.out.cell1 i hlt; rw [e1] at hx; by_cases hkl : q < m1
    ·
     have b4 : decide ((q : Int) < (m1 : Int)) = true := decide_eq_true (by omega)
     have b5 : decide (q < m1) = true := decide_eq_true hkl
     have p1 := eq_true (show (0 : Int) ≤ (q : Int) by omega)
     have q1 := eq_true (show (q : Int) < (m1 : Int) by omega)
     obtain ⟨g1, cur, u, rfl, h1, h2, h3, h4, h5⟩ := (e1 ▸ HS.out.in1 i hlt).at (by decide) q hkl
     go_wp2
     go_roundw
     case rel => exact ⟨q + 1, hkl, by go_num, ⟨HS.out.set h3 (by decide) _ _⟩, ⟨HC.out.set h1 h2 _ _⟩⟩
     case measure => simp [intOf]; omega
    obtain rfl : q = m1 := by omega
    have b4 : decide ((q : Int) < (q : Int)) = false := decide_eq_false (by omega)
    have b5 : decide (q < q) = false := decide_eq_false hkl
    go_wp2
    go_loopw [13] (fun v4 ws => ∃ q : Nat, q ≤ m2 ∧ v4 = .int .i64 q ∧ Aside0 (Spl 31 3 1 2 lo hi r.length f1 f2 g ws) ∧ Aside0 (Chg lo hi w4 ws)) (fun v4 _ => m2 - (intOf v4).toNat)
    case atStart => exact ⟨0, Nat.zero_le _, rfl, HS, HC⟩
    case round =>
     clear HS HC hx
     obtain ⟨q, hk, rfl, HS, HC⟩ := hrel
     have hx := HS.out.cell2 i hlt; rw [e2] at hx; by_cases hkl : q < m2; rotate_left
     ·
      obtain rfl : q = m2 := by omega
      have b4 : decide ((q : Int) < (q : Int)) = false := decide_eq_false (by omega)
      have b5 : decide (q < q) = false := decide_eq_false hkl
      go_wp2
      go_roundw
      case rel => exact ⟨i + 1, hlt, by go_num, ⟨fun _ => HS.out⟩, HC⟩
      case measure => simp [intOf]; omega
     have b4 : decide ((q : Int) < (m2 : Int)) = true := decide_eq_true (by omega)
     have b5 : decide (q < m2) = true := decide_eq_true hkl
     have p1 := eq_true (show (0 : Int) ≤ (q : Int) by omega)
     have q1 := eq_true (show (q : Int) < (m2 : Int) by omega)
     obtain ⟨g1, cur, u, rfl, h1, h2, h3, h4, h5⟩ := (e2 ▸ HS.out.in2 i hlt).at (by decide) q hkl
     rw [Nat.mul_one] at h4 h5
     go_wp2
     go_roundw
     case rel => exact ⟨q + 1, hkl, by go_num, ⟨HS.out.set h3 (by decide) _ _⟩, ⟨HC.out.set h1 h2 _ _⟩⟩
     case measure => simp [intOf]; omega
  have hir : i = r.length := by omega
  have b2 : decide ((i : Int) < (r.length : Int)) = false := decide_eq_false (by omega)
  have b3 : decide (i < r.length) = false := decide_eq_false hlt
  have HB5 := Aside0.mk (show Below w1.heap.size w1 wr from HB1.out.trans (hlo ▸ HC.out.be)); have HO5 := Aside0.mk (Kd.S_below HO.out HB5.out); clear HS0 HC
  go_wp2_with fail
  refine (ref_Same_self k AO A cO c l wr (Kd.S_reads' HO5.out).2.2 (Kd.C_below HR.out (below_step HB.out HB5.out)) (Kd.S_reads' HO5.out).2.1 hc HF.out.same).mono ?_
  rintro e w5 ⟨rfl, ⟨nd, rfl⟩⟩
  replace HB5 := Aside0.mk (pw_below_drewN HB5.out nd)
  replace HO5 := Aside0.mk (Kd.S_drewN HO5.out nd)
  generalize wr.drewN nd = w5 at HB5 HO5 ⊢
  go_wp2_with fail
  refine (policy_Views.calls k AO cO l o v kd r w5 (Kd.S_reads' HO5.out).2.2 (Kd.S_reads' HO5.out).2.1 HF.out.pv (env_below HE.out (below_step HB.out HB5.out))).mono ?_
  rintro e w6 ⟨uw, rfl, hw, hb6⟩
  have HW := Aside0.mk (Kd.R_lower hw HB5.out.size); have HO6 := Aside0.mk (Kd.S_below HO5.out hb6); have HB6 := Aside0.mk (below_step HB5.out hb6); clear hw hb6 HO5
  obtain ⟨AW, cW, rfl⟩ := Kd.R_slice HW.out
  go_wp2_with fail
  have hsp : Calls Tryz.prog 15 #[.slice AO l.length cO] w6 fun e w' => e = .returned (.tuple #[]) ∧ Chg w.heap.size w1.heap.size w6 w' := by
   rcases Nat.eq_zero_or_pos l.length with h0 | h0
   ·
    rw [h0]
    refine (spoil_none AO cO w6).mono ?_
    rintro e w' ⟨rfl, rfl⟩
    exact ⟨rfl, Chg.refl _ _ _⟩
   obtain ⟨g', f1', f2', rfl, h2⟩ := spl_of_rules (Kd.S_R HO.out) h0
   obtain ⟨cur, hcur, _⟩ := h2.out
   exact spoil_walk w.heap.size w1.heap.size g' l.length cO f1' f2' w6 (h2.later (blk_lt hcur) HB6.out) (by omega) (Kd.S_reads' HO.out).2.1
  refine hsp.mono ?_
  rintro e w7 ⟨rfl, hch⟩
  have HB7 := Aside0.mk (show Below w.heap.size w w7 from (below_step HB.out HB6.out).trans hch.be)
  have HW7 := Aside0.mk (Kd.R_mono (ok' := fun _ => True) (Kd.R_step (Kd.R_bound HW.out) (fun k hk _ => hch.up k hk.2.1)) (fun _ _ => trivial))
  clear hsp hch HW HO6 HB6
  go_wp2_with fail
  refine (belfryref11_Views.calls k A c l o v kd r w7 (Kd.C_below HR.out HB7.out) hc HF.out.rv).mono ?_
  rintro e w8 ⟨ux, rfl, hx8, hb8⟩
  have HX := Aside0.mk hx8
  replace HW7 := Aside0.mk (Kd.R_below HW7.out hb8)
  replace HB7 := Aside0.mk (below_step HB7.out hb8)
  clear hx8 hb8
  obtain ⟨AX, cX, rfl⟩ := Kd.S_slice HX.out
  go_wp2_with fail
  refine (belfryref11_SameViews.calls k AW cW r AX cX r true w8 (kV_C (Kd.R_reads' HW7.out).2.2) (Kd.R_reads' HW7.out).2.1 (Kd.S_reads' HX.out).2.2 (Kd.S_reads' HX.out).2.1 HF.out.sv rfl).mono ?_
  rintro e w9 ⟨rfl, hb9⟩
  replace HB7 := Aside0.mk (below_step HB7.out hb9)
  clear hb9 HX HW7
  go_wp2_with fail
  refine (known.calls kk w9 HK.out (env_below HE.out HB7.out)).mono ?_
  rintro e w10 ⟨rfl, hb10⟩
  replace HB7 := Aside0.mk (below_step HB7.out hb10)
  clear hb10; go_wp2; go_ret
  exact ⟨rfl, HB7.out⟩
end Go.Proofs.YtkedidjjhhjdbaaGreatDoor.Pr
end
section
set_option linter.unusedVariables false
set_option linter.unusedSimpArgs false
namespace Go.Proofs.YtkedidjjhhjdbaaGreatDoor.Pr
open Go.RowKit Go.Proofs.YtkedidjjhhjdbaaGreatDoorW.PrintWords Go.Proofs.YtkedidjjhhjdbaaGreatDoorW.PrintLast Go.Proofs.YtkedidjjhhjdbaaGreatDoorW.PrintMore
theorem known_at : belfrylaw11_known.f 60 = some true := by kernel_rfl
theorem Ev.all {α β : Type} {f : α → Nat → Option β} {v : β} : ∀ l : List α, (∀ x ∈ l, Ev (f x) v) → ∃ K, ∀ k, K ≤ k → ∀ x ∈ l, f x k = some v
 | [], _ => ⟨0, fun _ _ x h => by cases h⟩
 | y :: l, h => by
  obtain ⟨K, hK⟩ := h y (List.mem_cons_self ..)
  obtain ⟨L, hL⟩ := Ev.all l (fun x hx => h x (List.mem_cons_of_mem _ hx))
  refine ⟨K + L, fun k hk x hx => ?_⟩
  rcases List.mem_cons.1 hx with rfl | hx
  · exact hK k (by omega)
  exact hL k (by omega) x hx
theorem views_facts (l : List S46) (o v : ByteArray) (kd : Int) (hs : ∀ x ∈ l, x.f3.length < 3518437208883 ∧ x.f4.length < 8796093022208) :
  ∃ K, l.length ≤ 200 → ∃ r, VwF K l o v kd r := by
 by_cases hl : l.length ≤ 200; rotate_left
 · exact ⟨0, fun h => absurd h hl⟩
 obtain ⟨K1, h1⟩ := lent_ev l hl hs
 obtain ⟨K2, h2⟩ := views_ev l o v kd hl
 obtain ⟨K3, h3⟩ := ref_views_ev l o v kd hl
 have hsm := viewsR_small l o v kd
 obtain ⟨K4, h4⟩ := sameViews_refl (viewsR l o v kd) (by omega) (fun x hx => by have := hsm.2 x hx; omega)
 obtain ⟨K5, h5⟩ := Ev.all (f := fun (x : S46) k => belfryref04_SameMatch.f k x.f3 x.f3) l (fun x hx => sameMatch_refl x.f3 (by have := hs x hx; omega))
 obtain ⟨K6, h6⟩ := Ev.all (f := fun (x : S46) k => belfryref11_texts.f k x.f4 x.f4) l (fun x hx => texts_refl x.f4 (by have := hs x hx; omega))
 refine ⟨K1 + K2 + K3 + K4 + K5 + K6, fun _ => ⟨viewsR l o v kd, ?_⟩⟩
 exact { lent := h1 _ (by omega), pv := h2 _ (by omega), rv := h3 _ (by omega), sv := h4 _ (by omega), same := fun x hx => ⟨h5 _ (by omega) x hx, h6 _ (by omega) x hx⟩ }
end Go.Proofs.YtkedidjjhhjdbaaGreatDoor.Pr
end
