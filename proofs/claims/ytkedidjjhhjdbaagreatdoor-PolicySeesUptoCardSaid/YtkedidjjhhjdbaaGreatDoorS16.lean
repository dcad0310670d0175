import Derived.Test.YtkedidjjhhjdbaaGreatDoorS15
section
set_option linter.unusedVariables false
set_option linter.unusedSimpArgs false
namespace Go.Proofs.YtkedidjjhhjdbaaGreatDoor.Pr
open Go.RowKit Go.Proofs.YtkedidjjhhjdbaaGreatDoorW.PrintWords Go.Proofs.YtkedidjjhhjdbaaGreatDoorW.PrintLast Go.Proofs.YtkedidjjhhjdbaaGreatDoorW.PrintMore
def belfrylaw11_PolicySees.T7 : Bool × List (List Nat × List Nat) := (true, [([], []), ([0], [0]), ([1], [1]), ([], []), ([2, 3], [2, 3]), ([4, 4], [4]), ([5, 5], [5]), ([5, 6], [5, 6]), ([7, 6, 0, 1, 2, 3, 4, 5, 6, 7], [7])])
def belfrylaw11_PolicySees.B7 : List Nat := [0, 1, 3, 0, 15, 31, 63, 127, 255]
set_option maxRecDepth 100000 in
theorem belfrylaw11_PolicySees.tab7 : rtab .any (opsOf Tryz.f6 7) = belfrylaw11_PolicySees.T7 := by kernel_rfl
set_option maxRecDepth 100000 in
theorem belfrylaw11_PolicySees.bits7 : waitsOk belfrylaw11_PolicySees.T7.2 belfrylaw11_PolicySees.B7 = true := by kernel_rfl
theorem exec_mid52 {ρ : Operand → Value} {o : Oper} {x : Operand} (ho : o.op = .load 52 x) {g : Nat} (hx : ρ x = .pointer (some ⟨g, 0, none⟩)) {W : World} {cs : Array Value} (hr : W.rangeAt g 0 cs.toList) (hs : cs.size = 40) :
  (execOp ρ o).run Tryz.prog W = .ok (.value (.agg cs)) W := by
 unfold execOp
 simp only [ho, hx, Sem.run_bind, Sem.run_pure, Result.andThen_ok, run_loadAt_mid (P := Tryz.prog) W g 0 52 cs.toList _ hr Tryz.underlying52 rfl (by rw [Array.length_toList, hs]; kernel_rfl)]
theorem rangeAt_below {B g o : Nat} {W W' : World} {cs : List Value} (h : W.rangeAt g o cs) (hb : Below B W W') (hg : g < B) : W'.rangeAt g o cs := fun j v hv => by
 have h1 := h j v hv
 rw [← h1]
 unfold World.cell?
 rw [hb.block g hg]
def zrc : Rc := ⟨0, ⟨#[]⟩, 0, 0, 0, 0, ⟨#[]⟩, [0, 0, 0, 0, 0, 0, 0, 0, 0, 0, 0, 0, 0, 0, 0, 0], [0, 0, 0, 0, 0, 0, 0, 0], [0, 0, 0, 0, 0, 0, 0, 0]⟩
theorem zrc_ok : zrc.ok := ⟨rfl, rfl, rfl⟩
theorem C_nil62 (W : World) : k62.C W none 0 [] := ⟨rfl, by omega, fun h => absurd h (by omega)⟩
theorem one_seen (k : Nat) (x : Rc) (hx : x.ok) {b1 b2 : Nat} {r : Option (List S62)} {oc1 oc2 : Array Value} {W : World} (h1 : SeenC x b1 r oc1 W) (h2 : SeenC x b2 r oc2 W) (hs : ∀ ys, r = some ys → belfryref04_Same.f k ys ys = some true) (h0 : belfryref04_Same.f k [] [] = some true) :
  Calls Tryz.prog 27 #[.agg oc1, .agg oc2] W fun e w' => e = .returned (.bool true) ∧ Below W.heap.size W w' := by
 cases r with
 | none =>
  rw [h1.none rfl, h2.none rfl]
  exact one_walk k zrc zrc_ok none none 0 0 [] W (C_nil62 W) (Nat.le_refl _) (C_nil62 W) (Nat.le_refl _) h0
 | some ys =>
  obtain ⟨A1, c1, rfl, hR1⟩ := h1.some ys rfl
  obtain ⟨A2, c2, rfl, hR2⟩ := h2.some ys rfl
  exact one_walk k x hx A1 A2 c1 c2 ys W (Kd.R_reads' hR1).2.2 (Kd.R_reads' hR1).2.1 (Kd.R_reads' hR2).2.2 (Kd.R_reads' hR2).2.1 (hs ys rfl)
theorem seen_wr {x : Rc} {base : Nat} {r : Option (List S62)} {oc : Array Value} {W : World} (h : SeenC x base r oc W) : ∃ A n c, oc[2]? = some (.slice A n c) ∧ Wr 62 2 base W.heap.size W (.slice A n c) := by
 cases r with
 | none =>
  rw [h.none rfl]
  exact ⟨none, 0, 0, rfl, none, 0, 0, rfl, Nat.le_refl _, by omega, .inl rfl⟩
 | some ys =>
  obtain ⟨A1, c1, rfl, hR1⟩ := h.some ys rfl
  exact ⟨A1, ys.length, c1, rfl, wr_of_R hR1 rfl (R_len hR1)⟩
structure SeF (k : Nat) (vs : List S31) (ts : List S62) (r : Option (List S62)) : Prop where
  s1 : policy_Sees.go k ts vs = some r
  s2 : belfryref11_Sees.go k ts vs = some r
  same : ∀ ys, r = some ys → belfryref04_Same.f k ys ys = some true
  same0 : belfryref04_Same.f k [] [] = some true
  sameT : belfryref04_Same.f k ts ts = some true
set_option maxHeartbeats 8000000 in
set_option maxRecDepth 100000 in
theorem sees_walk (k kk : Nat) (A : Option Addr) (c : Nat) (vs : List S31) (x : Rc) (hx : x.ok) (B : Option Addr) (cb : Nat) (ts : List S62) (w : World) (hv : Kd.C k31 w A vs.length vs) (hvc : vs.length ≤ c)
  (ha : Kd.C k62 w B ts.length ts) (hac : ts.length ≤ cb) (ht : ts.length ≤ 1048576) (hk : belfrylaw11_known.f kk = some true) (r : Option (List S62)) (hF : SeF k vs ts r) (he : EnvW w) :
  Calls Tryz.prog 6 #[.slice A vs.length c, .agg (x.cells (.slice B ts.length cb))] w fun e w' => e = .returned (.bool true) ∧ Below w.heap.size w w' := by
 have hu52 := Tryz.underlying52
 have HV := Aside0.mk hv
 have HA := Aside0.mk ha
 have HX := Aside0.mk hx
 have HK := Aside0.mk hk
 have HF := Aside0.mk hF
 have HE := Aside0.mk he
 clear hv ha hx hk hF he
 obtain ⟨cs, hcs⟩ : ∃ cs, cs = x.cells (.slice B ts.length cb) := ⟨_, rfl⟩
 rw [← hcs]
 have hs : cs.size = 40 := by rw [hcs]; exact Rc.size HX.out _
 have h1 : cs.all (·.oneCell') = true := by rw [hcs]; exact Rc.ones x rfl
 have h2 : cs[2]? = some (.slice B ts.length cb) := by rw [hcs]; exact Rc.at2 x _
 have HCS := Aside0.mk hcs
 have H1 := Aside0.mk h1
 clear hcs h1
 go_enter Tryz.func6, Tryz.ntmps6
 have HW : Aside0 ((w.alloc (.cells cs 52)).heap[w.heap.size]? = some (.cells cs 52 (0, 0)) ∧ Below w.heap.size w (w.alloc (.cells cs 52))) := ⟨blk_new w _, below_alloc (Below.refl _ _) _⟩
 go_wp2_with (refine wpList_load_row rfl 52 (.tmp 3) rfl w.heap.size rfl 52 cs (0, 0) _ HW.out.1 hu52 rfl (by rw [hs]; kernel_rfl) (Aside0.out ?_))
 refine ⟨?_⟩
 generalize w.alloc (.cells cs 52) = W1 at HW ⊢
 refine wpList_buildRec 10 rfl rfl (some 11) rfl hs rfl ?_
 go_wp2_with fail
 refine (lent1_walk W1.heap.size x HX.out B cb ts (W1.alloc (.cells cs 52)) (by rw [← HCS.out]; exact blk_new W1 _) (Kd.C_alloc (Kd.C_below HA.out HW.out.2) _) hac ht).mono ?_
 rintro e W2 ⟨v2, rfl, hL, hb2⟩
 have HW2 : Aside0 (W2.heap[w.heap.size]? = some (.cells cs 52 (0, 0)) ∧ Below w.heap.size w W2) := ⟨blk_below (blk_alloc HW.out.1 _) hb2, below_step (below_alloc HW.out.2 _) hb2⟩
 obtain ⟨g1, cg, A1, c1, rfl, hg1, hrg, hcg, hR1⟩ := hL.out
 have HRG := Aside0.mk hrg
 have HA1 := Aside0.mk (Kd.R_reads' hR1).2.2
 have hac1 := (Kd.R_reads' hR1).2.1
 have hg1l : g1 < W2.heap.size := by
  have := hrg 0 _ (show (x.cells (.slice A1 ts.length c1)).toList[0]? = some (.int .i64 x.kd) from rfl)
  exact World.block_lt_of_cell? W2 _ this
 clear hL hb2 HW hR1 hrg hg1
 have p0 := eq_true (show (0 : Int) < (1 : Int) by omega)
 go_wp2_with (first
  | refine wpList_load_mid rfl 52 (.tmp 16) rfl g1 0 rfl (x.cells (.slice A1 ts.length c1)).toList _ HRG.out hu52 rfl (by rw [Array.length_toList, Rc.size HX.out]; kernel_rfl) (Aside0.out ?_))
 refine ⟨?_⟩
 go_wp2_with fail
 refine (policy_Sees.calls k A c vs (x.cells (.slice A1 ts.length c1)) A1 c1 ts r W2 (Kd.C_below HV.out HW2.out.2) hvc (Rc.size HX.out _) (Rc.ones x rfl) (Rc.at2 x _) HA1.out hac1 HF.out.s1 (env_below HE.out HW2.out.2)).mono ?_
 rintro e w3 ⟨hSeen, hb3⟩
 obtain ⟨oc1, rfl, hS⟩ := seen_out hSeen
 have HS1 := Aside0.mk hS
 have ho1 := hS.size HX.out
 have HL3 := Aside0.mk hb3
 clear hS hSeen hb3
 go_wp2_with (refine wpList_store_rowTo rfl 52 (.tmp 6) (.tmp 19) rfl rfl w3.heap.size oc1 rfl rfl 52 z52 (blk_new w3 (.cells z52 52)) (by rw [ho1.1]; kernel_rfl) (by rw [ho1.1]; rfl) ho1.2 (Aside0.out ?_))
 refine ⟨?_⟩
 obtain ⟨W4, hW4⟩ : ∃ W4, W4 = (w3.alloc (.cells z52 52)).setRow w3.heap.size oc1 := ⟨_, rfl⟩
 obtain ⟨g6, hg6⟩ : ∃ g6, g6 = w3.heap.size := ⟨_, rfl⟩
 have HG6 : Aside0 (W4.heap[g6]? = some (.cells oc1 52 (0, 0))) := ⟨by rw [hW4, hg6]; exact blk_setRow (blk_new w3 _)⟩
 have HL4 : Aside0 (Below W2.heap.size W2 W4) := ⟨by rw [hW4]; exact below_setRow (HL3.out.alloc HL3.out.size _) HL3.out.size _⟩
 replace HS1 : Aside0 (SeenC x W2.heap.size r oc1 W4) := ⟨by rw [hW4]; exact (HS1.out.below ((Below.refl _ _).alloc (Nat.le_refl _) _)).setRow (blk_new w3 _) _⟩
 have hW4' := hW4
 unfold z52 at hW4'
 rw [← hW4', ← hg6]
 clear hW4 hW4' hg6 HL3
 have HW4 : Aside0 (W4.heap[w.heap.size]? = some (.cells cs 52 (0, 0)) ∧ Below w.heap.size w W4) := ⟨blk_below HW2.out.1 HL4.out, below_step HW2.out.2 HL4.out⟩
 go_wp2_with (refine wpList_load_row rfl 52 (.tmp 3) rfl w.heap.size rfl 52 cs (0, 0) _ HW4.out.1 hu52 rfl (by rw [hs]; kernel_rfl) (Aside0.out ?_))
 refine ⟨?_⟩
 go_wp2_with fail
 refine (belfryref11_Sees.calls k A c vs cs B cb ts r W4 (Kd.C_below HV.out HW4.out.2) hvc hs H1.out h2 (Kd.C_below HA.out HW4.out.2) hac HF.out.s2).mono ?_
 rintro e w5 ⟨hSeen, hb5⟩
 rw [HCS.out] at hSeen
 obtain ⟨oc2, rfl, hS⟩ := seen_out hSeen
 have HS2 := Aside0.mk hS
 have ho2 := hS.size HX.out
 have HL5 := Aside0.mk hb5
 clear hS hSeen hb5
 go_wp2_with (refine wpList_store_rowTo rfl 52 (.tmp 8) (.tmp 25) rfl rfl w5.heap.size oc2 rfl rfl 52 z52 (blk_new w5 (.cells z52 52)) (by rw [ho2.1]; kernel_rfl) (by rw [ho2.1]; rfl) ho2.2 (Aside0.out ?_))
 refine ⟨?_⟩
 obtain ⟨W6, hW6⟩ : ∃ W6, W6 = (w5.alloc (.cells z52 52)).setRow w5.heap.size oc2 := ⟨_, rfl⟩
 obtain ⟨g8, hg8⟩ : ∃ g8, g8 = w5.heap.size := ⟨_, rfl⟩
 have HG8 : Aside0 (W6.heap[g8]? = some (.cells oc2 52 (0, 0))) := ⟨by rw [hW6, hg8]; exact blk_setRow (blk_new w5 _)⟩
 have HL6 : Aside0 (Below W4.heap.size W4 W6) := ⟨by rw [hW6]; exact below_setRow (HL5.out.alloc HL5.out.size _) HL5.out.size _⟩
 replace HS2 : Aside0 (SeenC x W4.heap.size r oc2 W6) := ⟨by rw [hW6]; exact (HS2.out.below ((Below.refl _ _).alloc (Nat.le_refl _) _)).setRow (blk_new w5 _) _⟩
 replace HS1 := Aside0.mk (HS1.out.below HL6.out)
 replace HG6 := Aside0.mk (blk_below HG6.out HL6.out)
 replace HL4 := Aside0.mk (show Below W2.heap.size W2 W6 from HL4.out.trans (HL6.out.mono HL4.out.size))
 have hW6' := hW6
 unfold z52 at hW6'
 rw [← hW6', ← hg8]
 clear hW6 hW6' hg8 HL5 HL6 HW4
 go_wp2_with (first
  | refine wpList_load_row rfl 52 (.tmp 6) rfl g6 rfl 52 oc1 (0, 0) _ HG6.out hu52 rfl (by rw [ho1.1]; kernel_rfl) ?_
  | refine wpList_load_row rfl 52 (.tmp 8) rfl g8 rfl 52 oc2 (0, 0) _ HG8.out hu52 rfl (by rw [ho2.1]; kernel_rfl) ?_)
 refine (one_seen k x HX.out HS1.out HS2.out HF.out.same HF.out.same0).mono ?_
 rintro e w7 ⟨rfl, hb7⟩
 replace HS1 := Aside0.mk (HS1.out.below hb7)
 replace HG6 := Aside0.mk (blk_below HG6.out hb7)
 replace HL4 := Aside0.mk (show Below W2.heap.size W2 w7 from HL4.out.trans (hb7.mono HL4.out.size))
 clear hb7 HS2 HG8 ho2
 go_wp2_with (refine wpList_load_row rfl 52 (.tmp 6) rfl g6 rfl 52 oc1 (0, 0) _ HG6.out hu52 rfl (by rw [ho1.1]; kernel_rfl) (Aside0.out ?_))
 refine ⟨?_⟩
 refine wpList_buildRec 36 rfl rfl (some 37) rfl ho1.1 rfl ?_
 go_wp2_with fail
 obtain ⟨A9, n9, c9, q9, hW9⟩ := seen_wr (HS1.out.below ((Below.refl w7.heap.size w7).alloc (Nat.le_refl _) (.cells oc1 52)))
 refine (spoil1_walk W2.heap.size w7.heap.size oc1 A9 n9 c9 (w7.alloc (.cells oc1 52)) HL4.out.size (blk_new w7 _) ho1.1 q9 hW9).mono ?_
 rintro e w8 ⟨rfl, hb8⟩
 have HL8 := Aside0.mk (show Below W2.heap.size W2 w8 from (HL4.out.alloc HL4.out.size _).trans hb8)
 clear hb8 HS1 HG6 HL4 hW9 q9 ho1
 have HRG8 := Aside0.mk (rangeAt_below HRG.out HL8.out hg1l)
 have HA8 := Aside0.mk (Kd.C_below HA1.out HL8.out)
 have HW8 : Aside0 (w8.heap[w.heap.size]? = some (.cells cs 52 (0, 0)) ∧ Below w.heap.size w w8) := ⟨blk_below HW2.out.1 HL8.out, below_step HW2.out.2 HL8.out⟩
 clear HL8 HRG HA1 HW2
 go_upto_region 7 with (fail)
 refine start_ (n := 9) (S := fun w' => Below w8.heap.size w8 w') (ds := []) #[false, false, false, false, false, false, false, false, false] (by kernel_rfl) rfl rfl (below_drew1 (Below.refl _ _)) (fun hHeld => ?_)
 refine with_tabW belfrylaw11_PolicySees.tab7 belfrylaw11_PolicySees.bits7 (fun HT_ HW_ => ?_)
 generalize w8.drew = W0 at hHeld ⊢
 refine pure_ (i := 0) (N := some 39) (v := ?_) (a' := ?_) #[true, false, false, false, false, false, false, false, false] rfl rfl (any_of HT_.out (by kernel_rfl)) (fun _ _ _ h => h) (Or.inl ⟨by rfl, ?_⟩) ?_ ?_
 rotate_left
 ·
  intro w'
  go_simp
  with_reducible rfl
 rotate_left
 ·
  simp only [Act.put, List.setIfInBounds_toArray, List.set_cons_zero, List.set_cons_succ, i64_w, i32_w]
  rfl
 refine pure_ (i := 1) (N := some 40) (v := ?_) (a' := ?_) #[true, true, false, false, false, false, false, false, false] rfl rfl (any_of HT_.out (by kernel_rfl)) (fun _ _ _ h => h) (Or.inl ⟨by rfl, ?_⟩) ?_ ?_
 rotate_left
 ·
  intro w'
  go_simp
  with_reducible rfl
 rotate_left
 ·
  simp only [Act.put, List.setIfInBounds_toArray, List.set_cons_zero, List.set_cons_succ, i64_w, i32_w]
  rfl
 refine take_ (i := 2) (N := some 41) (v := ?_) (a' := ?_) #[true, true, true, false, false, false, false, false, false] rfl rfl (take_ofW HT_.out HW_.out (by kernel_rfl)) (fun _ _ _ h => h) (Or.inl ⟨by rfl, ?_⟩) hHeld ?_ ?_
 rotate_left
 ·
  rintro w' hw
  refine exec_mid52 (x := .tmp 40) ?_ ?_ (cs := x.cells (.slice A1 ts.length c1)) (fun j v hv => (hw.cell (World.block_lt_of_cell? w8 _ (HRG8.out j v hv))).trans (HRG8.out j v hv)) (Rc.size HX.out _)
  ·
   rfl
  ·
   rfl
 rotate_left
 ·
  simp only [Act.put, List.setIfInBounds_toArray, List.set_cons_zero, List.set_cons_succ, i64_w, i32_w]
  rfl
 refine take_ (i := 3) (N := some 42) (v := ?_) (a' := ?_) #[true, true, true, true, false, false, false, false, false] rfl rfl (take_ofW HT_.out HW_.out (by kernel_rfl)) (fun _ _ _ h => h) (Or.inl ⟨by rfl, ?_⟩) hHeld ?_ ?_
 rotate_left
 ·
  rintro w' hw
  refine exec_load52 (x := .tmp 3) ?_ ?_ (blk_below HW8.out.1 hw) hs
  ·
   rfl
  ·
   rfl
 rotate_left
 ·
  simp only [Act.put, List.setIfInBounds_toArray, List.set_cons_zero, List.set_cons_succ, i64_w, i32_w]
  rfl
 refine one_ (i := 4) (N := some 43) #[true, true, true, true, true, false, false, false, false] rfl rfl (one_of HT_.out (by kernel_rfl)) (by decide) (fun K hK => ?_)
 refine goes_ Tryz.func27 (by kernel_rfl) rfl #[.agg (x.cells (.slice A1 ts.length c1)), .agg cs] (by rfl) rfl rfl (by (try simp only [List.map_toArray, List.map_cons, List.map_nil]); first | done | rfl) ?_
 refine (HCS.out ▸ one_walk k x HX.out A1 B c1 cb ts _ (Kd.C_below HA8.out hHeld) hac1 (Kd.C_below (Kd.C_below HA.out HW8.out.2) hHeld) hac HF.out.sameT).mono ?_
 rintro e w2 ⟨rfl, hd2⟩
 refine ⟨_, rfl, ?_⟩
 refine hK.out _ _ (below_step hHeld hd2) (fun hHeld => ?_)
 clear hK K hd2
 refine norm_ (a' := ?_) ?_ ?_
 rotate_left
 ·
  show Act.put _ (some 43) _ = _
  simp only [Act.put, List.setIfInBounds_toArray, List.set_cons_zero, List.set_cons_succ, i64_w, i32_w]
  rfl
 refine pure_ (i := 5) (N := some 44) (v := ?_) (a' := ?_) #[true, true, true, true, true, true, false, false, false] rfl rfl (any_of HT_.out (by kernel_rfl)) (fun _ _ _ h => h) (Or.inl ⟨by rfl, ?_⟩) ?_ ?_
 rotate_left
 ·
  intro w'
  go_simp
  with_reducible rfl
 rotate_left
 ·
  simp only [Act.put, List.setIfInBounds_toArray, List.set_cons_zero, List.set_cons_succ, i64_w, i32_w]
  rfl
 refine one_ (i := 6) (N := some 45) #[true, true, true, true, true, true, true, false, false] rfl rfl (one_of HT_.out (by kernel_rfl)) (by decide) (fun K hK => ?_)
 refine goes_ Tryz.func9 (by kernel_rfl) rfl #[] (by rfl) rfl rfl (by (try simp only [List.map_toArray, List.map_cons, List.map_nil]); first | done | rfl) ?_
 refine (known.calls kk _ HK.out (env_below HE.out (below_step HW8.out.2 hHeld))).mono ?_
 rintro e w3 ⟨rfl, hd2⟩
 refine ⟨_, rfl, ?_⟩
 refine hK.out _ _ (below_step hHeld hd2) (fun hHeld => ?_)
 clear hK K hd2
 refine norm_ (a' := ?_) ?_ ?_
 rotate_left
 ·
  show Act.put _ (some 45) _ = _
  simp only [Act.put, List.setIfInBounds_toArray, List.set_cons_zero, List.set_cons_succ, i64_w, i32_w]
  rfl
 refine pure_ (i := 7) (N := some 46) (v := ?_) (a' := ?_) #[true, true, true, true, true, true, true, true, false] rfl rfl (any_of HT_.out (by kernel_rfl)) (fun _ _ _ h => h) (Or.inl ⟨by rfl, ?_⟩) ?_ ?_
 rotate_left
 ·
  intro w'
  go_simp
  with_reducible rfl
 rotate_left
 ·
  simp only [Act.put, List.setIfInBounds_toArray, List.set_cons_zero, List.set_cons_succ, i64_w, i32_w]
  rfl
 refine pure_ (i := 8) (N := some 4) (v := ?_) (a' := ?_) #[true, true, true, true, true, true, true, true, true] rfl rfl (any_of HT_.out (by kernel_rfl)) (fun _ _ _ h => h) (Or.inl ⟨by rfl, ?_⟩) ?_ ?_
 rotate_left
 ·
  intro w'
  go_simp
  with_reducible rfl
 rotate_left
 ·
  simp only [Act.put, List.setIfInBounds_toArray, List.set_cons_zero, List.set_cons_succ, i64_w, i32_w]
  rfl
 refine done_ (done_of HT_.out (by kernel_rfl)) ?_
 go_wp2
 go_ret
 exact ⟨rfl, below_step HW8.out.2 hHeld⟩
end Go.Proofs.YtkedidjjhhjdbaaGreatDoor.Pr
end
section
set_option linter.unusedVariables false
set_option linter.unusedSimpArgs false
namespace Go.Proofs.YtkedidjjhhjdbaaGreatDoor.Pr
open Go.RowKit Go.Proofs.YtkedidjjhhjdbaaGreatDoorW.PrintWords Go.Proofs.YtkedidjjhhjdbaaGreatDoorW.PrintLast Go.Proofs.YtkedidjjhhjdbaaGreatDoorW.PrintMore
theorem sees_facts (vs : List S31) (ts : List S62) (hv : ∀ x ∈ vs, valsB 1048576 x.f1 ∧ x.f1.length ≤ 1048576 ∧ x.f2.length ≤ 1048576) (ht : ts.length ≤ 1048576) (hs : ∀ x ∈ ts, x.f1.size ≤ 1048576) : ∃ K, SeF K vs ts (seesR ts vs) := by
 have hts : smallA ts := fun x hx => Nat.lt_of_le_of_lt (hs x hx) (by omega)
 have hvs : smallV vs := fun x hx => ⟨⟨(hv x hx).2.1, fun m hm => Nat.le_trans ((hv x hx).1 m hm) (by omega)⟩, Nat.lt_of_le_of_lt (hv x hx).2.2 (by omega)⟩
 obtain ⟨K1, h1⟩ := sees_ev ts (by omega) hts vs hvs
 obtain ⟨K2, h2⟩ := ref_sees_ev ts (by omega) hts vs hvs
 obtain ⟨K3, h3⟩ := same_ev (seesR ts vs) (fun ys hy => by have := seesR_len ts _ ys hy; omega)
 obtain ⟨K4, h4⟩ := sameA_refl [] (by simp)
 obtain ⟨K5, h5⟩ := sameA_refl ts (by omega)
 exact ⟨K1 + K2 + K3 + K4 + K5, { s1 := h1 _ (by omega), s2 := h2 _ (by omega), same := h3 _ (by omega), same0 := h4 _ (by omega), sameT := h5 _ (by omega) }⟩
end Go.Proofs.YtkedidjjhhjdbaaGreatDoor.Pr
end
