import Derived.Test.YtefeibndnghejaaGreatDoorJn11
import Derived.Test.YtefeibndnghejaaGreatDoorJn16
import Derived.Sort.CutIn
import Derived.Shelf.SlIter.Nil
import Derived.Shelf.SlIter.Sorted
import Derived.Shelf.SortM.Plain
import Derived.Shelf.SortM.SortNone
import Derived.Test.YtefeibndnghejaaGreatDoorProg
import Derived.Test.YtefeibndnghejaaGreatDoorJn5
import Derived.OpenShut
import Derived.DataShut
section
set_option linter.unusedVariables false
set_option linter.unusedSimpArgs false
namespace Go.Proofs.YtefeibndnghejaaGreatDoor.Pr
open Go.RowKit Go.Proofs.YtefeibndnghejaaGreatDoorW.PrintWords Go.Proofs.YtefeibndnghejaaGreatDoorW.PrintLast Go.Proofs.YtefeibndnghejaaGreatDoorW.PrintMore
theorem st_new (most : Int) (w : World) (base : Nat) (hb : base ≤ w.heap.size) : St (w.alloc (.cells (stC most (.slice none 0 0) (.map none) (.map none) 0) 81)) base (fun q => q = w.heap.size) w.heap.size most 0 [] :=
 ⟨.slice none 0 0, .map none, .map none, fun _ => False, fun _ => False, fun _ => False, fun _ => False,
  ⟨blk_new w _, MRow.nil _ _ _ _ _ _ _ _ _ (fun _ _ => rfl), MRow.nil _ _ _ _ _ _ _ _ _ (fun _ _ => rfl), fun _ h => h.elim, fun _ h => h.elim, fun _ h => h.elim, id⟩,
  Kd.R_nil _ _ _ _ _, fun _ h => h.elim, fun _ h => h.elim, rfl, fun q hq => by subst hq; exact ⟨hb, by simp⟩, fun _ h => h.elim, id, fun r h => by cases h⟩
def zU (n : Nat) : List Int := List.replicate n 0
def rK (t : Int) : Rd := ⟨⟨1, ⟨#[117, 112]⟩, t, 0, 0, 0, ⟨#[]⟩, zU 16, zU 8, zU 8⟩, []⟩
theorem rK_ok (t : Int) : (rK t).x.ok := ⟨rfl, rfl, rfl, by simp [rK, zU], by simp [rK, zU]⟩
theorem rK_fine (t : Int) : (rK t).fine := ⟨rK_ok t, by show (2 : Nat) < _; decide, by
 show attr_Text.f [] = _
 unfold attr_Text.f
 rw [if_pos (by decide)]
 rfl, Nat.zero_le _⟩
theorem rK_key (t u : Int) : skeyB (rK t) = skeyB (rK u) := rfl
theorem rK_right : attr_Right.f 20 [] = some 0 := by decide +kernel
theorem putK0 : putE 10 [] (rK 5) 0 = 0 := by
 unfold putE
 rw [if_neg (by decide), if_neg (by decide), if_neg, if_neg, if_neg (by decide)]
 ·
  rintro ⟨h, _⟩; cases h
 ·
  rintro ⟨_, h, _⟩; exact h rfl
theorem timesK1 (u : Int) : timesOf [rK 5] (skeyB (rK u)).data.toList = [5] := by
 unfold timesOf
 rw [List.filter_cons, if_pos (decide_eq_true ⟨rfl, by rw [rK_key 5 u]⟩)]
 rfl
theorem timesK2 (u : Int) : timesOf [rK 5, rK 7] (skeyB (rK u)).data.toList = [5, 7] := by
 unfold timesOf
 rw [List.filter_cons, if_pos (decide_eq_true ⟨rfl, by rw [rK_key 5 u]⟩), List.filter_cons, if_pos (decide_eq_true ⟨rfl, by rw [rK_key 7 u]⟩)]
 rfl
theorem putK1 : putE 10 [rK 5] (rK 7) 0 = 0 := by
 unfold putE
 rw [if_neg (by decide), if_neg (by decide), if_neg, if_neg, if_neg (by decide)]
 ·
  rintro ⟨h, _⟩; cases h
 ·
  rintro ⟨_, _, h⟩; rw [timesK1] at h; revert h; decide
theorem putK2 : putE 10 [rK 5, rK 7] (rK 5) 0 = 9 := by
 unfold putE
 rw [if_neg (by decide), if_neg (by decide), if_pos]
 refine ⟨rfl, ?_, ?_⟩
 ·
  rw [timesK2]; simp
 ·
  rw [timesK2]; decide
theorem selK : ([rK 5, rK 7] : List Rd).filter (selP 1 ⟨#[117, 112]⟩ 6 9 (fun _ => true)) = [rK 7] := by
 have h5 : selP 1 ⟨#[117, 112]⟩ 6 9 (fun _ => true) (rK 5) = false := by decide +kernel
 have h7 : selP 1 ⟨#[117, 112]⟩ 6 9 (fun _ => true) (rK 7) = true := by decide +kernel
 rw [List.filter_cons, h5, List.filter_cons, h7]
 rfl
theorem keptK : keptR 6 [rK 5, rK 7] = [rK 7] := by
 unfold keptR
 rw [List.filter_cons, if_neg (by decide), List.filter_cons, if_pos (by decide)]
 rfl
theorem rK_cells (t : Int) : (rK t).x.cells (.slice none 0 0) = #[.int .i64 1, .string ⟨#[117, 112]⟩, .slice none 0 0, .int .i64 t, .int .i64 0, .int .i64 0, .int .i64 0, .string ⟨#[]⟩, .int .u8 0, .int .u8 0, .int .u8 0, .int .u8 0, .int .u8 0, .int .u8 0, .int .u8 0, .int .u8 0, .int .u8 0, .int .u8 0, .int .u8 0, .int .u8 0, .int .u8 0, .int .u8 0, .int .u8 0, .int .u8 0, .int .u8 0, .int .u8 0, .int .u8 0, .int .u8 0, .int .u8 0, .int .u8 0, .int .u8 0, .int .u8 0, .int .u8 0, .int .u8 0, .int .u8 0, .int .u8 0, .int .u8 0, .int .u8 0, .int .u8 0, .int .u8 0] := rfl
theorem C85_nil (w : World) : Kd.C k85 w none 0 [] := ⟨rfl, Nat.zero_le _, fun h => by cases h⟩
structure KN (w : World) (B a b : Nat) (ca cb : Array Value) (ver : Int) (R : List Rd) (W : World) : Prop where
  st : ∃ F, St W w.heap.size F w.heap.size 10 ver R ∧ ∀ q, F q → q = w.heap.size ∨ B ≤ q
  ha : W.heap[a]? = some (.cells ca 36 (0, 0))
  hb : W.heap[b]? = some (.cells cb 36 (0, 0))
  bel : Below w.heap.size w W
  la : a < B
  lb : b < B
  na : w.heap.size < a
  nb : w.heap.size < b
  lB : B ≤ W.heap.size
theorem KN.put {w : World} {B a b : Nat} {ca cb : Array Value} {ver : Int} {R : List Rd} {W : World} (h : KN w B a b ca cb ver R W) (he : EnvW w) (t : Int) (hR : R.length < 1048576) (hv : -4611686018427387904 < ver ∧ ver < 4611686018427387904) :
  Calls Tryz.prog 32 #[.pointer (some ⟨w.heap.size, 0, none⟩), .agg ((rK t).x.cells (.slice none 0 0))] W fun e w' => e = .returned (.int .i64 (putE 10 R (rK t) 0)) ∧ KN w B a b ca cb (if putE 10 R (rK t) 0 = 0 then ver + 1 else ver) (if putE 10 R (rK t) 0 = 0 then R ++ [rK t] else R) w' := by
 obtain ⟨F, hS, hF⟩ := h.st
 refine (put_walk 20 w.heap.size 10 ver R F (rK t) none 0 W w.heap.size hS (rK_ok t) (C85_nil _) (Nat.le_refl _) 0 rK_right (fun _ => ⟨rK_fine t, by show (0 : Nat) < _; decide⟩) (fun ad e => by cases e) hR hv h.bel.size (env_below he h.bel)).mono ?_
 rintro e w1 ⟨rfl, hc, hs⟩
 have hs' := hc.size
 refine ⟨rfl, ⟨_, hs, fun q hq => hq.1.elim (hF q) (fun e => .inr (Nat.le_trans h.lB e))⟩, (hc.block a (blk_lt h.ha) (fun e => (hF a e).elim (fun e => by have := h.na; omega) (fun e => by have := h.la; omega))).trans h.ha, (hc.block b (blk_lt h.hb) (fun e => (hF b e).elim (fun e => by have := h.nb; omega) (fun e => by have := h.lb; omega))).trans h.hb, h.bel.trans (hc.below (fun q hq => (hS.lt q hq).1) h.bel.size), h.la, h.lb, h.na, h.nb, Nat.le_trans h.lB hs'⟩
set_option maxRecDepth 100000 in
set_option maxHeartbeats 8000000 in
theorem known_walk (w : World) (he : EnvW w) : Calls Tryz.prog 10 #[] w fun e w' => e = .returned (.bool true) ∧ Below w.heap.size w w' := by
 have hu36 := Tryz.underlying36
 have HEN := Aside0.mk he
 obtain ⟨W0, hW0⟩ : ∃ W0, W0 = w.alloc (.cells (stC 10 (.slice none 0 0) (.map none) (.map none) 0) 81) := ⟨_, rfl⟩
 have hb0 : Below w.heap.size w W0 := hW0 ▸ below_alloc (Below.refl _ _) _
 have hs0 : St W0 w.heap.size (fun q => q = w.heap.size) w.heap.size 10 0 [] := hW0 ▸ st_new 10 w w.heap.size (Nat.le_refl _)
 obtain ⟨ca, hca⟩ : ∃ ca, ca = (rK 5).x.cells (.slice none 0 0) := ⟨_, rfl⟩
 obtain ⟨cb, hcb⟩ : ∃ cb, cb = (rK 7).x.cells (.slice none 0 0) := ⟨_, rfl⟩
 have hsa : ca.size = 40 := by rw [hca]; rfl
 have hsb : cb.size = 40 := by rw [hcb]; rfl
 have h1a : ca.all (·.oneCell') = true := by rw [hca]; exact Rc.ones _ rfl
 have h1b : cb.all (·.oneCell') = true := by rw [hcb]; exact Rc.ones _ rfl
 have HCA := Aside0.mk hca
 have HCB := Aside0.mk hcb
 have H1 := Aside0.mk (And.intro h1a h1b)
 have HB0 := Aside0.mk hb0
 have HS0 := Aside0.mk hs0
 have HW0 := Aside0.mk hW0
 rw [rK_cells] at hca hcb
 clear h1a h1b hb0 hs0 he hW0
 go_enter Tryz.func10, Tryz.ntmps10
 go_upto_region 4 with (go_at_call 34; refine (new_some 10 w (by decide) (by decide)).mono ?_; rintro e w' ⟨rfl, rfl⟩)
 rw [← HW0.out]
 go_wp2_with (refine wpList_buildTo rfl 36 _ rfl (some 11) rfl ca (by rw [hca]; kernel_rfl) (Aside0.out ?_))
 refine ⟨?_⟩
 clear hca
 go_wp2_with (refine wpList_store_rowTo rfl 36 (.tmp 2) (.tmp 11) rfl rfl W0.heap.size ca rfl rfl 36 z36 (blk_new W0 (.cells z36 36)) (by rw [hsa]; kernel_rfl) (by rw [hsa]; rfl) H1.out.1 (Aside0.out ?_))
 refine ⟨?_⟩
 have hWa : ∃ Wa, Wa = (W0.alloc (.cells z36 36)).setRow W0.heap.size ca := ⟨_, rfl⟩
 obtain ⟨Wa, hWa⟩ := hWa
 have hba := hWa ▸ recBox W0 ca
 have HBA := Aside0.mk hba
 have hsza : Wa.heap.size = W0.heap.size + 1 := by rw [hWa]; simp [World.setRow]
 have hsz0 : W0.heap.size = w.heap.size + 1 := by rw [HW0.out]; simp
 have HSZ := Aside0.mk (And.intro hsza hsz0)
 unfold z36 at hWa
 rw [← hWa]
 clear hWa hba hsza hsz0
 refine wpList_nil ?_
 go_wp2_with (refine wpList_buildTo rfl 36 _ rfl (some 12) rfl cb (by rw [hcb]; kernel_rfl) (Aside0.out ?_))
 refine ⟨?_⟩
 clear hcb
 go_wp2_with (refine wpList_store_rowTo rfl 36 (.tmp 3) (.tmp 12) rfl rfl Wa.heap.size cb rfl rfl 36 z36 (blk_new Wa (.cells z36 36)) (by rw [hsb]; kernel_rfl) (by rw [hsb]; rfl) H1.out.2 (Aside0.out ?_))
 refine ⟨?_⟩
 have hWb : ∃ Wb, Wb = (Wa.alloc (.cells z36 36)).setRow Wa.heap.size cb := ⟨_, rfl⟩
 obtain ⟨Wb, hWb⟩ := hWb
 have hbb := hWb ▸ recBox Wa cb
 have HBB := Aside0.mk hbb
 unfold z36 at hWb
 rw [← hWb]
 clear hWb hbb
 refine wpList_nil ?_
 have hK : KN w Wb.heap.size W0.heap.size Wa.heap.size ca cb 0 [] Wb := by
  have h1 := HSZ.out.1
  have h2 := HSZ.out.2
  have h3 := HBB.out.2.size
  have h4 := blk_lt HBB.out.1
  exact ⟨⟨_, HS0.out.below (HBA.out.2.trans (HBB.out.2.mono HBA.out.2.size)), fun q hq => .inl hq⟩, blk_below HBA.out.1 HBB.out.2, HBB.out.1, HB0.out.trans ((HBA.out.2.trans (HBB.out.2.mono HBA.out.2.size)).mono HB0.out.size), by omega, by omega, by omega, by omega, Nat.le_refl _⟩
 have HK := Aside0.mk hK
 clear hK
 go_wp2_with (refine wpList_load_row rfl 36 (.tmp 2) rfl W0.heap.size rfl 36 ca (0, 0) _ HK.out.ha hu36 rfl (by rw [hsa]; kernel_rfl) (Aside0.out ?_))
 refine ⟨?_⟩
 go_wp2_with fail
 have HP1 := Aside0.mk (HK.out.put HEN.out 5 (by decide) ⟨by decide, by decide⟩)
 rw [← HCA.out, putK0] at HP1
 refine HP1.out.mono ?_
 rintro e w1 ⟨rfl, hk1⟩
 have HK1 := Aside0.mk (show KN w Wb.heap.size W0.heap.size Wa.heap.size ca cb 1 [rK 5] w1 from hk1)
 clear HP1 hk1
 go_wp2_with (refine wpList_load_row rfl 36 (.tmp 3) rfl Wa.heap.size rfl 36 cb (0, 0) _ HK1.out.hb hu36 rfl (by rw [hsb]; kernel_rfl) (Aside0.out ?_))
 refine ⟨?_⟩
 go_wp2_with fail
 have HP1 := Aside0.mk (HK1.out.put HEN.out 7 (by decide) ⟨by decide, by decide⟩)
 rw [← HCB.out, putK1] at HP1
 refine HP1.out.mono ?_
 rintro e w2 ⟨rfl, hk1⟩
 have HK2 := Aside0.mk (show KN w Wb.heap.size W0.heap.size Wa.heap.size ca cb 2 [rK 5, rK 7] w2 from hk1)
 clear HP1 hk1
 go_wp2_with (refine wpList_load_row rfl 36 (.tmp 2) rfl W0.heap.size rfl 36 ca (0, 0) _ HK2.out.ha hu36 rfl (by rw [hsa]; kernel_rfl) (Aside0.out ?_))
 refine ⟨?_⟩
 go_wp2_with fail
 have HP1 := Aside0.mk (HK2.out.put HEN.out 5 (by decide) ⟨by decide, by decide⟩)
 rw [← HCA.out, putK2] at HP1
 refine HP1.out.mono ?_
 rintro e w3 ⟨rfl, hk1⟩
 have HK3 := Aside0.mk (show KN w Wb.heap.size W0.heap.size Wa.heap.size ca cb 2 [rK 5, rK 7] w3 from hk1)
 clear HP1 hk1
 go_wp2_with fail
 obtain ⟨F3, hS3, hF3⟩ := HK3.out.st
 refine (select_walk 1 ⟨#[117, 112]⟩ none 0 0 6 9 (fun _ => true) id w.heap.size 10 2 [rK 5, rK 7] w.heap.size F3 w3 hS3 (by decide) (fun r hr A c W hb hC hc => (fits_nil A r.a.length c W).mono fun e w' ⟨h1, h2⟩ => ⟨h1, h2 ▸ Below.refl _ _⟩) (fun v W base' ok' hle hr => ?_)).mono ?_
 ·
  rw [selK] at hr ⊢
  obtain ⟨A, c, rfl⟩ := Kd.R_slice hr
  refine (sort1_walk A 1 c W (Nat.le_refl _)).mono ?_
  rintro e w' ⟨rfl, rfl⟩
  exact ⟨rfl, hr, Chg.refl _ _⟩
 rintro e w4 ⟨v, rfl, hr4, hb4⟩
 rw [selK] at hr4
 obtain ⟨A4, c4, hv4⟩ := Kd.R_slice hr4
 subst hv4
 obtain ⟨gl, B4, cb4, hA4, -, hrow, -, -⟩ := rec_row hr4 0 (by decide)
 subst hA4
 have y3 : w4.cell? ⟨gl, 3, none⟩ = some (.int .i64 7) := by
  have := hrow 3 (.int .i64 7) rfl
  simpa using this
 have hcut : Calls Tryz.prog 17 #[.pointer (some ⟨w.heap.size, 0, none⟩), .int .i64 6] w4 fun e w' => e = .returned (.int .i64 1) ∧ Below w.heap.size w w' ∧ ∃ F, St w' w.heap.size F w.heap.size 10 3 [rK 7] := by
  refine (cut_walk w.heap.size 10 2 6 [rK 5, rK 7] F3 w4 w.heap.size (hS3.below hb4) (by decide) ⟨by decide, by decide⟩ (by have h1 := HK3.out.bel.size; have h2 := hb4.size; omega)).mono ?_
  rintro e w5 ⟨he, hc, hs⟩
  rw [keptK] at he hs
  refine ⟨he, (HK3.out.bel.trans (hb4.mono HK3.out.bel.size)).trans (hc.below (fun q hq => (hS3.lt q hq).1) (by have h1 := HK3.out.bel.size; have h2 := hb4.size; omega)), _, hs⟩
 have HCUT := Aside0.mk hcut
 clear hcut hrow hr4 hb4 hS3 hF3
 go_wp2_with (first | (go_at_call 17; refine HCUT.out.mono ?_; rintro e w5 ⟨rfl, hb5, F5, hs5⟩; obtain ⟨l5, m51, m52, _, _, _, _, hP5⟩ := hs5; have HB5 := Aside0.mk hb5; have HV5 := Aside0.mk (version_at w.heap.size 10 l5 m51 m52 3 w5 hP5.mp.blk); clear hb5 hP5) | (go_at_call 16; refine HV5.out.mono ?_; rintro e w6 ⟨rfl, rfl⟩))
 go_ret
 exact ⟨rfl, HB5.out⟩
end Go.Proofs.YtefeibndnghejaaGreatDoor.Pr
end
section
set_option linter.unusedVariables false
set_option linter.unusedSimpArgs false
namespace Go.Proofs.YtefeibndnghejaaGreatDoor.Pr
open Go.RowKit Go.Shelf Go.Proofs.YtefeibndnghejaaGreatDoorW.PrintWords Go.Proofs.YtefeibndnghejaaGreatDoorW.PrintLast Go.Proofs.YtefeibndnghejaaGreatDoorW.PrintMore
attribute [local go_sem] Oper.semAt_some
theorem func_nn (b : Addr) (W : World) : (binOp .neq 62 (.func (.func 60) #[] #[.pointer (some b)]) .nilFunc).run Tryz.prog W = .ok (.bool true) W := by kernel_rfl
attribute [local go_sem high] func_nn
structure NS (w : World) (cs : Array Value) (D : Nat) (W : World) : Prop where
  env : EnvW W
  bel : Below w.heap.size w W
  row : W.heap[w.heap.size]? = some (.cells cs 36 (0, 0))
  n : Boxed W (w.heap.size + 1) 3 (.int .i64 0)
  d : W.heap[D]? = some (.deferred (some []))
theorem NS.kept {w : World} {cs : Array Value} {D : Nat} {W W' : World} (h : NS w cs D W) (hb : Below W.heap.size W W') : NS w cs D W' :=
 ⟨env_below h.env hb, below_step h.bel hb, blk_below h.row hb, boxed_below h.n hb, (hb.block D (Array.getElem?_eq_some_iff.1 h.d).1).trans h.d⟩
theorem NS.tr {w : World} {cs : Array Value} {D : Nat} {W : World} (h : NS w cs D W) {a0 a1 a2 a3 a4 a5 a6 a7 a8 a9 a10 a11 a12 a13 a14 a15 : Int} (h8 : ∀ (j : Nat) (u : Value), (([a0, a1, a2, a3, a4, a5, a6, a7, a8, a9, a10, a11, a12, a13, a14, a15] : List Int).map (Value.int .u8))[j]? = some u → cs[8 + j]? = some u) :
  W.cell? ⟨w.heap.size, 8, none⟩ = some (.int .u8 a0) ∧ W.cell? ⟨w.heap.size, 9, none⟩ = some (.int .u8 a1) ∧ W.cell? ⟨w.heap.size, 10, none⟩ = some (.int .u8 a2) ∧ W.cell? ⟨w.heap.size, 11, none⟩ = some (.int .u8 a3) ∧ W.cell? ⟨w.heap.size, 12, none⟩ = some (.int .u8 a4) ∧ W.cell? ⟨w.heap.size, 13, none⟩ = some (.int .u8 a5) ∧ W.cell? ⟨w.heap.size, 14, none⟩ = some (.int .u8 a6) ∧ W.cell? ⟨w.heap.size, 15, none⟩ = some (.int .u8 a7) ∧ W.cell? ⟨w.heap.size, 16, none⟩ = some (.int .u8 a8) ∧ W.cell? ⟨w.heap.size, 17, none⟩ = some (.int .u8 a9) ∧ W.cell? ⟨w.heap.size, 18, none⟩ = some (.int .u8 a10) ∧ W.cell? ⟨w.heap.size, 19, none⟩ = some (.int .u8 a11) ∧ W.cell? ⟨w.heap.size, 20, none⟩ = some (.int .u8 a12) ∧ W.cell? ⟨w.heap.size, 21, none⟩ = some (.int .u8 a13) ∧ W.cell? ⟨w.heap.size, 22, none⟩ = some (.int .u8 a14) ∧ W.cell? ⟨w.heap.size, 23, none⟩ = some (.int .u8 a15) :=
 ⟨(blk_cell h.row 8).trans (h8 0 _ rfl), (blk_cell h.row 9).trans (h8 1 _ rfl), (blk_cell h.row 10).trans (h8 2 _ rfl), (blk_cell h.row 11).trans (h8 3 _ rfl), (blk_cell h.row 12).trans (h8 4 _ rfl), (blk_cell h.row 13).trans (h8 5 _ rfl), (blk_cell h.row 14).trans (h8 6 _ rfl), (blk_cell h.row 15).trans (h8 7 _ rfl), (blk_cell h.row 16).trans (h8 8 _ rfl), (blk_cell h.row 17).trans (h8 9 _ rfl), (blk_cell h.row 18).trans (h8 10 _ rfl), (blk_cell h.row 19).trans (h8 11 _ rfl), (blk_cell h.row 20).trans (h8 12 _ rfl), (blk_cell h.row 21).trans (h8 13 _ rfl), (blk_cell h.row 22).trans (h8 14 _ rfl), (blk_cell h.row 23).trans (h8 15 _ rfl)⟩
set_option maxRecDepth 100000 in
set_option maxHeartbeats 8000000 in
theorem nil_walk (x : Rc) (hx : x.ok) (v : Value) (m : Value) (hv : v.oneCell' = true) (hm : m.oneCell' = true) (w : World) (he : EnvW w)
  (hkeys : ∀ W, EnvW W → Calls Tryz.prog 24 #[.pointer none, .int .i64 1] W fun e w' => e = .returned (.slice none 0 0) ∧ Below W.heap.size W w')
  (hvals : ∀ W, EnvW W → Calls Tryz.prog 26 #[.pointer none, .int .i64 1, .string ⟨#[97]⟩] W fun e w' => e = .returned (.slice none 0 0) ∧ Below W.heap.size W w') :
  Calls Tryz.prog 8 #[.agg (x.cells v), m] w fun e w' => e = .returned (.bool true) ∧ Below w.heap.size w w' := by
 have hu36 := Tryz.underlying36
 have hu33 := Tryz.underlying33
 obtain ⟨cs, hcs⟩ : ∃ cs, cs = x.cells v := ⟨_, rfl⟩
 have hs : cs.size = 40 := by rw [hcs]; exact Rc.size hx _
 have h8 : ∀ (j : Nat) (u : Value), (x.tr.map (Value.int .u8))[j]? = some u → cs[8 + j]? = some u := by rw [hcs]; exact Rc.mid8 hx _
 rw [← hcs]
 obtain ⟨a0, a1, a2, a3, a4, a5, a6, a7, a8, a9, a10, a11, a12, a13, a14, a15, htr⟩ := list16 x.tr hx.tr
 rw [htr] at h8
 have H8 := Aside0.mk h8
 have HX := Aside0.mk hx
 have HEN := Aside0.mk he
 have HKEY := Aside0.mk hkeys
 have HVAL := Aside0.mk hvals
 clear hcs hx he hkeys hvals h8 htr
 refine (callsIn_wide (n := 5)).1 ?_
 refine callsIn_of_wp_marks Tryz.func8 rfl trivial ?_ rfl
 simp only [Tryz.ntmps8, List.size_toArray, List.length_cons, List.length_nil, Nat.reduceAdd, Nat.reduceSub, Array.replicate_succ, Array.replicate_zero, List.push_toArray, List.append_toArray, List.nil_append, List.cons_append]
 gi_wp2_with (refine ⟨trivial, ?_⟩; gi_at_call 31; refine (all_in Fence.wide _ trivial rfl _ _).mono ?_; rintro e w' ⟨rfl, rfl⟩)
 have bG := Boxed.new ((w.alloc (.cells cs 36)).alloc (.cells #[.int .i64 0] 3)) 23 (.pointer none)
 have bN := Boxed.new (w.alloc (.cells cs 36)) 3 (.int .i64 0)
 have bX := blk_new w (.cells cs 36)
 simp only [World.size_alloc] at bG bN
 have hB0 : Below w.heap.size w (((w.alloc (.cells cs 36)).alloc (.cells #[.int .i64 0] 3)).alloc (.cells #[.pointer none] 23)) := below_alloc (below_alloc (below_alloc (Below.refl _ _) _) _) _
 have hX0 := blk_alloc (blk_alloc bX (.cells #[.int .i64 0] 3)) (.cells #[.pointer none] 23)
 have hN0 := bN.alloc (.cells #[.pointer none] 23)
 refine range_gives (F := Fence.wide) rfl (by omega) (gf := 60) (lb := #[.pointer (some ⟨w.heap.size + 1 + 1, 0, none⟩)]) rfl trivial (enters_of Tryz.func60 (by kernel_rfl) rfl)
  (nil_gives _ (w.heap.size + 1 + 1) _ bG.cell (fun W W' => Below w.heap.size W W') (fun _ _ _ => False) 0) belowK_t (belowK_b (by simp; omega)) (Below.refl _ _) (fun _ => rfl)
  (fun _ W => Below (((w.alloc (.cells cs 36)).alloc (.cells #[.int .i64 0] 3)).alloc (.cells #[.pointer none] 23)).heap.size (((w.alloc (.cells cs 36)).alloc (.cells #[.int .i64 0] 3)).alloc (.cells #[.pointer none] 23)) W) (fun _ _ _ => False) (ownFrom_below (Nat.le_refl _) (Nat.le_refl _)) (fun _ _ _ _ _ hs _ _ => hs) (Below.refl _ _) ?round ?done ?stop
 case stop =>
  rintro D c pre W _ h _ _
  exact h.elim
 case round =>
  rintro lr pre y W0 W hl1 hl0 hl2 hI hbW hf hlen
  exact hf.elim
 case done =>
  rintro D zs W hD hzs hI hK
  have HN := Aside0.mk (show NS w cs D W from ⟨env_below (env_below HEN.out hB0) hI, below_step hB0 hI, blk_below hX0 hI, boxed_below hN0 hI, hK⟩)
  have HD := Aside0.mk hD
  clear hI hzs bG bN bX hB0 hX0 hN0 hD hK
  gi_upto_region 7 with (fail)
  refine region_round none _ (fun _ _ h => by have h1 : Ending.outgrown = Ending.returned (.bool true) ∧ _ := h; cases h1.1) (by kernel_rfl) ?_
  simp only [List.append]
  go_wp2_with (refine wpList_load_row rfl 36 (.tmp 2) rfl w.heap.size rfl 36 cs (0, 0) _ HN.out.row hu36 rfl (by rw [hs]; kernel_rfl) (Aside0.out ?_))
  refine ⟨?_⟩
  have hcell := HN.out.n.cell
  go_wp2_with (first
   | (go_at_call 32; refine (put_nil cs hs _).mono ?_; rintro e w2 ⟨rfl, hb⟩; replace HN := Aside0.mk (HN.out.kept hb); have hcell := HN.out.n.cell; clear hb)
   | (go_at_call 17; refine (cut_nil _ _).mono ?_; rintro e w2 ⟨rfl, hb⟩; replace HN := Aside0.mk (HN.out.kept hb); have hcell := HN.out.n.cell; clear hb)
   | (go_at_call 11; refine (select_nil _ _ m _ _ hm _).mono ?_; rintro e w2 ⟨rfl, hb⟩; replace HN := Aside0.mk (HN.out.kept hb); have hcell := HN.out.n.cell; obtain ⟨t0, t1, t2, t3, t4, t5, t6, t7, t8, t9, t10, t11, t12, t13, t14, t15⟩ := HN.out.tr H8.out; clear hb)
   | (go_at_call 29; refine (trace_nil [a0, a1, a2, a3, a4, a5, a6, a7, a8, a9, a10, a11, a12, a13, a14, a15] rfl _).mono ?_; rintro e w2 ⟨rfl, hb⟩; replace HN := Aside0.mk (HN.out.kept hb); have hcell := HN.out.n.cell; clear hb)
   | (go_at_call 24; refine (HKEY.out _ HN.out.env).mono ?_; rintro e w2 ⟨rfl, hb⟩; replace HN := Aside0.mk (HN.out.kept hb); have hcell := HN.out.n.cell; clear hb)
   | (go_at_call 26; refine (HVAL.out _ HN.out.env).mono ?_; rintro e w2 ⟨rfl, hb⟩; replace HN := Aside0.mk (HN.out.kept hb); have hcell := HN.out.n.cell; clear hb)
   | (go_at_call 33; refine (len_nil _ _).mono ?_; rintro e w2 ⟨rfl, hb⟩; replace HN := Aside0.mk (HN.out.kept hb); have hcell := HN.out.n.cell; clear hb)
   | (go_at_call 16; refine (version_nil _).mono ?_; rintro e w2 ⟨rfl, rfl⟩)
   | (go_at_call 14; refine (copy_nil _).mono ?_; rintro e w2 ⟨rfl, rfl⟩)
   | (go_at_call 15; refine (same_nil _ _).mono ?_; rintro e w2 ⟨rfl, hd⟩; have hb := Drawn0.below hd; replace HN := Aside0.mk (HN.out.kept hb); have hcell := HN.out.n.cell; clear hb hd)
   | (go_at_call 34; refine (new_some 5 _ (by decide) (by decide)).mono ?_; rintro e w2 ⟨rfl, hd⟩; replace HN := Aside0.mk (HN.out.kept (hd ▸ below_alloc (Below.refl _ _) _)); clear hd; have hcell := HN.out.n.cell)
   | (go_at_call 10; refine (known_walk _ HN.out.env).mono ?_; rintro e w2 ⟨rfl, hb⟩; replace HN := Aside0.mk (HN.out.kept hb); have hcell := HN.out.n.cell; clear hb))
  gi_wp2
  refine ⟨by simp, .inl ⟨_, _, rfl, run_takeDeferred HN.out.d, ?_⟩⟩
  refine ⟨_, results_tmp rfl _ _ _, rfl, ?_⟩
  exact HN.out.bel.trans (belowK_b (w := w) (Nat.le_refl _) _ D _ _ (by have := HD.out; simp at this; omega) HN.out.d rfl rfl)
end Go.Proofs.YtefeibndnghejaaGreatDoor.Pr
end
section
set_option maxRecDepth 100000
namespace Go.Proofs
open Go.Shelf
def Tryz.keysA_ren : Go.Shelf.Ren := ⟨fun | 7 => 80 | 10 => 96 | n => n, fun | 23 => 113 | 26 => 9 | 3 => 4 | 28 => 116 | 0 => 0 | 27 => 115 | 33 => 134 | 4 => 4 | n => n, fun n => n⟩
theorem Tryz.keysA : Go.Proofs.SlLaysZ.n7 Tryz.prog Tryz.keysA_ren := {
 mixed := by kernel_rfl
 f7 := ⟨Tryz.f80.name, by decide, Tryz.func80.trans (congrArg some (by kernel_rfl))⟩
 f10 := ⟨Tryz.f96.name, by decide, Tryz.func96.trans (congrArg some (by kernel_rfl))⟩
 t0 := Tryz.underlying0
 a0 := Tryz.isAgg0
 z0 := Tryz.sizeOf0
 v0 := Tryz.zeroValue0
 t4 := Tryz.underlying4
 a4 := Tryz.isAgg4
 z4 := Tryz.sizeOf4
 v4 := Tryz.zeroValue4
 t23 := Tryz.underlying113
 a23 := Tryz.isAgg113
 z23 := Tryz.sizeOf113
 v23 := Tryz.zeroValue113
 t26 := Tryz.underlying9
 a26 := Tryz.isAgg9
 z26 := Tryz.sizeOf9
 v26 := Tryz.zeroValue9
 t27 := Tryz.underlying115
 a27 := Tryz.isAgg115
 z27 := Tryz.sizeOf115
 v27 := Tryz.zeroValue115
 t28 := Tryz.underlying116
 a28 := Tryz.isAgg116
 z28 := Tryz.sizeOf116
 v28 := Tryz.zeroValue116
 t33 := Tryz.underlying134
 a33 := Tryz.isAgg134
 z33 := Tryz.sizeOf134
 v33 := Tryz.zeroValue134
}
def Tryz.sortedA_ren : Go.Shelf.Ren := ⟨fun | 6 => 79 | 8 => 94 | 9 => 95 | 11 => 114 | 13 => 116 | 12 => 115 | 23 => 143 | 24 => 144 | 14 => 134 | 15 => 135 | 16 => 136 | 17 => 137 | 18 => 138 | 19 => 139 | 20 => 140 | 21 => 141 | 22 => 142 | 25 => 163 | 26 => 164 | 27 => 165 | 28 => 166 | 29 => 167 | 30 => 168 | 31 => 181 | n => n, fun | 26 => 9 | 28 => 116 | 24 => 55 | 0 => 0 | 3 => 3 | 37 => 151 | 48 => 157 | 50 => 192 | 4 => 4 | 40 => 184 | 39 => 183 | 45 => 188 | 5 => 5 | 9 => 9 | 51 => 203 | 55 => 207 | 57 => 233 | 58 => 234 | 33 => 134 | n => n, fun n => n⟩
theorem Tryz.sortedA : Go.Proofs.SlLaysZ.n6 Tryz.prog Tryz.sortedA_ren := {
 mixed := by kernel_rfl
 f6 := ⟨Tryz.f79.name, by decide, Tryz.func79.trans (congrArg some (by kernel_rfl))⟩
 f8 := ⟨Tryz.f94.name, by decide, Tryz.func94.trans (congrArg some (by kernel_rfl))⟩
 f11 := ⟨Tryz.f114.name, by decide, Tryz.func114.trans (congrArg some (by kernel_rfl))⟩
 t0 := Tryz.underlying0
 a0 := Tryz.isAgg0
 z0 := Tryz.sizeOf0
 v0 := Tryz.zeroValue0
 t24 := Tryz.underlying55
 a24 := Tryz.isAgg55
 z24 := Tryz.sizeOf55
 v24 := Tryz.zeroValue55
 t26 := Tryz.underlying9
 a26 := Tryz.isAgg9
 z26 := Tryz.sizeOf9
 v26 := Tryz.zeroValue9
 t28 := Tryz.underlying116
 a28 := Tryz.isAgg116
 z28 := Tryz.sizeOf116
 v28 := Tryz.zeroValue116
 i26 := by kernel_rfl
}
def Tryz.sortA_ren : Go.Shelf.Ren := ⟨fun | 6 => 95 | 8 => 116 | 9 => 115 | 19 => 143 | 20 => 144 | 21 => 134 | 22 => 135 | 23 => 136 | 24 => 137 | 25 => 138 | 26 => 139 | 27 => 140 | 28 => 141 | 29 => 142 | 36 => 163 | 31 => 164 | 32 => 165 | 37 => 166 | 38 => 167 | 39 => 168 | 41 => 181 | n => n, fun | 27 => 55 | 29 => 9 | 3 => 3 | 32 => 151 | 26 => 55 | 0 => 0 | 44 => 157 | 46 => 192 | 4 => 4 | 36 => 184 | 35 => 183 | 41 => 188 | 5 => 5 | 9 => 9 | 53 => 203 | 57 => 207 | 63 => 233 | 64 => 234 | n => n, fun n => n⟩
theorem Tryz.sortA : Go.Proofs.SlLaysM.n6 Tryz.prog Tryz.sortA_ren := {
 mixed := by kernel_rfl
 f6 := ⟨Tryz.f95.name, by decide, Tryz.func95.trans (congrArg some (by kernel_rfl))⟩
 f8 := Tryz.func116.trans (congrArg some (by kernel_rfl))
 f9 := ⟨Tryz.f115.name, by decide, Tryz.func115.trans (congrArg some (by kernel_rfl))⟩
 f19 := Tryz.func143.trans (congrArg some (by kernel_rfl))
 f20 := Tryz.func144.trans (congrArg some (by kernel_rfl))
 f21 := ⟨Tryz.f134.name, by decide, Tryz.func134.trans (congrArg some (by kernel_rfl))⟩
 f22 := ⟨Tryz.f135.name, by decide, Tryz.func135.trans (congrArg some (by kernel_rfl))⟩
 f23 := ⟨Tryz.f136.name, by decide, Tryz.func136.trans (congrArg some (by kernel_rfl))⟩
 f24 := ⟨Tryz.f137.name, by decide, Tryz.func137.trans (congrArg some (by kernel_rfl))⟩
 f25 := ⟨Tryz.f138.name, by decide, Tryz.func138.trans (congrArg some (by kernel_rfl))⟩
 f26 := ⟨Tryz.f139.name, by decide, Tryz.func139.trans (congrArg some (by kernel_rfl))⟩
 f27 := ⟨Tryz.f140.name, by decide, Tryz.func140.trans (congrArg some (by kernel_rfl))⟩
 f28 := ⟨Tryz.f141.name, by decide, Tryz.func141.trans (congrArg some (by kernel_rfl))⟩
 f29 := ⟨Tryz.f142.name, by decide, Tryz.func142.trans (congrArg some (by kernel_rfl))⟩
 f31 := Tryz.func164.trans (congrArg some (by kernel_rfl))
 f32 := Tryz.func165.trans (congrArg some (by kernel_rfl))
 f36 := ⟨Tryz.f163.name, by decide, Tryz.func163.trans (congrArg some (by kernel_rfl))⟩
 f37 := ⟨Tryz.f166.name, by decide, Tryz.func166.trans (congrArg some (by kernel_rfl))⟩
 f38 := ⟨Tryz.f167.name, by decide, Tryz.func167.trans (congrArg some (by kernel_rfl))⟩
 f39 := ⟨Tryz.f168.name, by decide, Tryz.func168.trans (congrArg some (by kernel_rfl))⟩
 f41 := ⟨Tryz.f181.name, by decide, Tryz.func181.trans (congrArg some (by kernel_rfl))⟩
 t0 := Tryz.underlying0
 a0 := Tryz.isAgg0
 z0 := Tryz.sizeOf0
 v0 := Tryz.zeroValue0
 t3 := Tryz.underlying3
 a3 := Tryz.isAgg3
 z3 := Tryz.sizeOf3
 v3 := Tryz.zeroValue3
 t4 := Tryz.underlying4
 a4 := Tryz.isAgg4
 z4 := Tryz.sizeOf4
 v4 := Tryz.zeroValue4
 t5 := Tryz.underlying5
 a5 := Tryz.isAgg5
 z5 := Tryz.sizeOf5
 v5 := Tryz.zeroValue5
 t9 := Tryz.underlying9
 a9 := Tryz.isAgg9
 z9 := Tryz.sizeOf9
 v9 := Tryz.zeroValue9
 t26 := Tryz.underlying55
 a26 := Tryz.isAgg55
 z26 := Tryz.sizeOf55
 v26 := Tryz.zeroValue55
 t27 := Tryz.underlying55
 a27 := Tryz.isAgg55
 z27 := Tryz.sizeOf55
 v27 := Tryz.zeroValue55
 t29 := Tryz.underlying9
 a29 := Tryz.isAgg9
 z29 := Tryz.sizeOf9
 v29 := Tryz.zeroValue9
 t32 := Tryz.underlying151
 a32 := Tryz.isAgg151
 z32 := Tryz.sizeOf151
 v32 := Tryz.zeroValue151
 t35 := Tryz.underlying183
 a35 := Tryz.isAgg183
 z35 := Tryz.sizeOf183
 v35 := Tryz.zeroValue183
 t36 := Tryz.underlying184
 a36 := Tryz.isAgg184
 z36 := Tryz.sizeOf184
 v36 := Tryz.zeroValue184
 t41 := Tryz.underlying188
 a41 := Tryz.isAgg188
 z41 := Tryz.sizeOf188
 v41 := Tryz.zeroValue188
 t44 := Tryz.underlying157
 a44 := Tryz.isAgg157
 z44 := Tryz.sizeOf157
 v44 := Tryz.zeroValue157
 t46 := Tryz.underlying192
 a46 := Tryz.isAgg192
 z46 := Tryz.sizeOf192
 v46 := Tryz.zeroValue192
 t53 := Tryz.underlying203
 a53 := Tryz.isAgg203
 z53 := Tryz.sizeOf203
 v53 := Tryz.zeroValue203
 t57 := Tryz.underlying207
 a57 := Tryz.isAgg207
 z57 := Tryz.sizeOf207
 v57 := Tryz.zeroValue207
 t63 := Tryz.underlying233
 a63 := Tryz.isAgg233
 z63 := Tryz.sizeOf233
 v63 := Tryz.zeroValue233
 t64 := Tryz.underlying234
 a64 := Tryz.isAgg234
 z64 := Tryz.sizeOf234
 v64 := Tryz.zeroValue234
}
end Go.Proofs
end
section
set_option linter.unusedVariables false
set_option linter.unusedSimpArgs false
namespace Go.Proofs.YtefeibndnghejaaGreatDoor.Pr
open Go.RowKit Go.Shelf Go.Maps Go.Sort Go.Proofs.YtefeibndnghejaaGreatDoorW.PrintWords Go.Proofs.YtefeibndnghejaaGreatDoorW.PrintLast Go.Proofs.YtefeibndnghejaaGreatDoorW.PrintMore
attribute [local go_sem] Oper.semAt_some
theorem sortsA (m : Nat) : AnyZ.SortsIn Tryz.prog Tryz.sortedA_ren Fence.wide m :=
  ⟨fun blk off cap ss W hH hblk hsz => callsIn_wide.2 (AnyM.slices_Sort_string Tryz.sortA blk off cap ss W hH hblk hsz),
   fun p cap W => callsIn_wide.2 (AnyM.slices_Sort_string_none Tryz.sortA p cap W)⟩
theorem keys_in (n : Nat) (mb : Option Nat) (W : World) : CallsIn Fence.wide n Tryz.prog 80 #[.map mb] W fun e w' => e = .returned (.func (.func 96) #[] #[.pointer (some ⟨W.heap.size, 0, none⟩)]) ∧ w' = W.alloc (.cells #[.map mb] 113) :=
 AnyZ.keys_in Tryz.keysA Fence.wide n trivial rfl mb W
theorem sorted_in {H : Type} (b nn : Nat) (D0 : DataW H) (R : Value → Option (DataW H × List MemPlace)) (w : World) (hown : w.ownsMap Tryz.prog 9 R b nn D0) (hmax : Maps.size D0 ≤ maxLen) (hbytes : Maps.size D0 * 16 ≤ 140737488355328) :
  CallsIn Fence.wide 5 Tryz.prog 79 #[.func (.func 96) #[] #[.pointer (some ⟨w.heap.size, 0, none⟩)]] (w.alloc (.cells #[.map (some b)] 113)) fun e w' => ∃ (v : Value) (ss : List (List UInt8)), e = .returned v ∧ ss.Perm (strKeys D0) ∧
   w'.ownsRow w.heap.size 9 1 v ss.length ((ss.mergeSort (fun x y => decide (x ≤ y))).map encStr) ∧ (v = .slice none 0 0 ↔ ss = []) ∧ Below w.heap.size w w' := by
 have hbl := hown.lt
 have hseq : SeqGives Fence.wide 2 Tryz.prog 96 #[.pointer (some ⟨w.heap.size, 0, none⟩)] encStr (fun ss => ss.Perm (strKeys D0)) (Maps.size D0) (w.alloc (.cells #[.map (some b)] 113)) :=
  AnyZ.keys_gives (ρ := Tryz.keysA_ren) { Tryz.keysA with } Fence.wide _ trivial rfl (by omega) w.heap.size b nn D0 _ (by simp) (by simp) (by
   obtain ⟨es, clock, hb, Ft, hs, hD⟩ := hown
   exact ⟨es, clock, (Below.heap_alloc _ _ b hbl).trans hb, Ft, hs, hD⟩)
 have cS := AnyZ.sorted_in Tryz.sortedA Fence.wide 5 trivial trivial trivial trivial rfl (by omega) (sortsA _) (enters_of Tryz.func95 (by kernel_rfl) rfl) 96 #[.pointer (some ⟨w.heap.size, 0, none⟩)] trivial (enters_of Tryz.func96 (by kernel_rfl) rfl) _ _ hmax hbytes _ hseq
 change CallsIn _ _ Tryz.prog 79 _ _ _ at cS
 refine cS.mono ?_
 rintro e w' ⟨v, ss, rfl, hS, hrow, hnil, hb⟩
 exact ⟨v, ss, rfl, hS, ownsRow_base_a hrow (by simp), hnil, ((Below.refl _ w).alloc (Nat.le_refl _) _).trans (hb.mono (by simp))⟩
noncomputable def RHb : Value → Option (DataW Unit × List MemPlace) := plainElem Tryz.prog 4
theorem ownsMap_step' {H : Type} {P : Program} {k : TypeId} {R : Value → Option (DataW H × List MemPlace)} {w w' : World} {b n : Nat} {D : DataW H} (h : w.ownsMap P k R b n D) (hb : Below w.heap.size w w') : w'.ownsMap P k R b n D := by
 have hl := h.lt
 obtain ⟨es, clock, h1, h2, h3, h4⟩ := h
 exact ⟨es, clock, (hb.block b hl).trans h1, h2, h3, h4⟩
set_option maxRecDepth 100000 in
set_option maxHeartbeats 8000000 in
theorem rising_nil (kind : Int) (fv : Value) (w : World) (hfv : fv.oneCell' = true) (hfa : ∀ es, fv ≠ .agg es) :
  Calls Tryz.prog 54 #[.pointer none, .int .i64 kind, fv] w fun e w' => e = .returned (.slice none 0 0) ∧ Below w.heap.size w w' := by
 have hmk := @run_makeMap Tryz.prog
 refine (callsIn_wide (n := 7)).1 ?_
 refine callsIn_of_wp_marks Tryz.func54 rfl trivial ?_ rfl
 simp only [Tryz.ntmps54, List.size_toArray, List.length_cons, List.length_nil, Nat.reduceAdd, Nat.reduceSub, Array.replicate_succ, Array.replicate_zero, List.push_toArray, List.append_toArray, List.nil_append, List.cons_append]
 gi_wp2_with (refine ⟨trivial, ?_⟩; gi_at_call 31; refine (all_in Fence.wide _ trivial rfl _ _).mono ?_; rintro e w' ⟨rfl, rfl⟩)
 have bM : ((w.alloc (.cells #[.int .i64 kind] 3)).alloc (.cells #[fv] 90)).heap.size = w.heap.size + 1 + 1 := by simp
 have hM := World.ownsMap_made ((w.alloc (.cells #[.int .i64 kind] 3)).alloc (.cells #[fv] 90)) Tryz.prog 9 RHb
 rw [bM] at hM
 have hM2 := (hM.alloc (.cells #[.map (some (w.heap.size + 1 + 1))] 113)).alloc (.cells #[.pointer none] 23)
 have bC := (Boxed.new (((w.alloc (.cells #[.int .i64 kind] 3)).alloc (.cells #[fv] 90)).alloc (.map #[] 0)) 113 (.map (some (w.heap.size + 1 + 1)))).alloc (.cells #[.pointer none] 23)
 have bG := Boxed.new ((((w.alloc (.cells #[.int .i64 kind] 3)).alloc (.cells #[fv] 90)).alloc (.map #[] 0)).alloc (.cells #[.map (some (w.heap.size + 1 + 1))] 113)) 23 (.pointer none)
 simp only [World.size_alloc] at bC bG
 have hB0 : Below w.heap.size w (((((w.alloc (.cells #[.int .i64 kind] 3)).alloc (.cells #[fv] 90)).alloc (.map #[] 0)).alloc (.cells #[.map (some (w.heap.size + 1 + 1))] 113)).alloc (.cells #[.pointer none] 23)) := below_alloc (below_alloc (below_alloc (below_alloc (below_alloc (Below.refl _ _) _) _) _) _) _
 have hsz : (((((w.alloc (.cells #[.int .i64 kind] 3)).alloc (.cells #[fv] 90)).alloc (.map #[] 0)).alloc (.cells #[.map (some (w.heap.size + 1 + 1))] 113)).alloc (.cells #[.pointer none] 23)).heap.size = w.heap.size + 5 := by simp
 generalize ((((w.alloc (.cells #[.int .i64 kind] 3)).alloc (.cells #[fv] 90)).alloc (.map #[] 0)).alloc (.cells #[.map (some (w.heap.size + 1 + 1))] 113)).alloc (.cells #[.pointer none] 23) = W0 at *
 refine range_gives (F := Fence.wide) rfl (by omega) (gf := 60) (lb := #[.pointer (some ⟨w.heap.size + 1 + 1 + 1 + 1, 0, none⟩)]) rfl trivial (enters_of Tryz.func60 (by kernel_rfl) rfl)
  (nil_gives _ (w.heap.size + 1 + 1 + 1 + 1) _ bG.cell (fun W W' => Below w.heap.size W W') (fun _ _ _ => False) 0) belowK_t (belowK_b (by omega)) (Below.refl _ _) (fun _ => rfl)
  (fun _ W => Below W0.heap.size W0 W) (fun _ _ _ => False) (ownFrom_below (Nat.le_refl _) (Nat.le_refl _)) (fun _ _ _ _ _ hs _ _ => hs) (Below.refl _ _) ?round ?done ?stop
 case stop =>
  rintro D c pre W _ h _ _
  exact h.elim
 case round =>
  rintro lr pre y W1 W hl1 hl0 hl2 hI hbW hf hlen
  exact hf.elim
 case done =>
  rintro D zs W hD hzs hI hK
  have hc := (boxed_below bC hI).cell
  have hMW := ownsMap_step' hM2 hI
  have HBW := Aside0.mk (below_step hB0 hI)
  have HM := Aside0.mk hMW
  have HD := Aside0.mk (And.intro hD hK)
  have HSZ := Aside0.mk (And.intro hsz hI.size)
  clear hI hzs bG bC hM hM2 hB0 hMW hD hK bM hsz
  gi_wp2_with (first | (refine ⟨trivial, ?_⟩; gi_at_call 80; refine (keys_in _ _ _).mono ?_; rintro e w' ⟨rfl, rfl⟩) | (refine ⟨trivial, ?_⟩; gi_at_call 79; refine (callsIn_wide.2 (callsIn_wide.1 (sorted_in _ _ _ _ W HM.out (by simp [Maps.size]) (by simp [Maps.size])))).mono ?_; rintro e w2 ⟨v, ss, rfl, hS, _, hnil, hb2⟩; obtain rfl : v = .slice none 0 0 := hnil.2 (by simpa [strKeys] using hS); have HB2 := Aside0.mk hb2; clear hS hnil hb2))
  refine ⟨by simp, .inl ⟨_, _, rfl, run_takeDeferred ((HB2.out.block D (Array.getElem?_eq_some_iff.1 HD.out.2).1).trans HD.out.2), ?_⟩⟩
  refine ⟨_, results_tmp rfl _ _ _, rfl, ?_⟩
  exact (below_step HBW.out HB2.out).trans (belowK_b (w := w) (Nat.le_refl _) _ D _ _ (by have := HD.out.1; have := HSZ.out.1; omega) ((HB2.out.block D (Array.getElem?_eq_some_iff.1 HD.out.2).1).trans HD.out.2) rfl rfl)
set_option maxRecDepth 100000 in
set_option maxHeartbeats 4000000 in
theorem keys_nil (kind : Int) (w : World) : Calls Tryz.prog 24 #[.pointer none, .int .i64 kind] w fun e w' => e = .returned (.slice none 0 0) ∧ Below w.heap.size w w' := by
 go_enter Tryz.func24, Tryz.ntmps24
 go_wp2_with (go_at_call 54; refine (rising_nil kind _ w rfl (fun _ e => by cases e)).mono ?_; rintro e w2 ⟨rfl, hb2⟩; have HB2 := Aside0.mk hb2; clear hb2)
 go_ret
 exact ⟨rfl, HB2.out⟩
set_option maxRecDepth 100000 in
set_option maxHeartbeats 4000000 in
theorem values_nil (kind : Int) (key : ByteArray) (w : World) : Calls Tryz.prog 26 #[.pointer none, .int .i64 kind, .string key] w fun e w' => e = .returned (.slice none 0 0) ∧ Below w.heap.size w w' := by
 have HB := Aside0.mk (show Below w.heap.size w (w.alloc (.cells #[.string key] 9)) from below_alloc (Below.refl _ _) _)
 go_enter Tryz.func26, Tryz.ntmps26
 go_wp2_with (go_at_call 54; refine (rising_nil kind _ _ rfl (fun _ e => by cases e)).mono ?_; rintro e w2 ⟨rfl, hb2⟩; have HB2 := Aside0.mk (below_step HB.out hb2); clear hb2)
 go_ret
 exact ⟨rfl, HB2.out⟩
end Go.Proofs.YtefeibndnghejaaGreatDoor.Pr
end
section
set_option linter.unusedVariables false
set_option linter.unusedSimpArgs false
namespace Go.Proofs.YtefeibndnghejaaGreatDoor.Pr
open Go Go.RowKit Go.ChangeShapes Go.WideShapes Go.Deep Go.Proofs.YtefeibndnghejaaGreatDoorW.PrintWords Go.Proofs.YtefeibndnghejaaGreatDoorW.PrintLast Go.Proofs.YtefeibndnghejaaGreatDoorW.PrintMore
def Wt {H : Type} (t : TypeId) (d : DataW H) : Prop := ∀ n ∈ d.weights Tryz.prog t, n ≤ reachBytes
section
variable {H : Type}
theorem weightsAll_mem {P : Program} {e : TypeId} {x : DataW H} : ∀ {l : List (DataW H)}, x ∈ l → ∀ n ∈ x.weights P e, n ∈ DataW.weightsAll P e l
 | [], h, _, _ => (nomatch h)
 | y :: l, h, n, hn => by
  simp only [DataW.weightsAll, List.mem_append]
  rcases List.mem_cons.1 h with rfl | h
  ·
   exact .inl hn
  ·
   exact .inr (weightsAll_mem h n hn)
theorem Wt.of {ts : List TypeId} {ds : List (DataW H)} (h : (DataW.weightsEach Tryz.prog ts ds).all (· ≤ reachBytes) = true) {j : Nat} {t : TypeId} {d : DataW H} (ht : ts[j]? = some t) (hd : ds[j]? = some d) : Wt t d :=
 fun n hn => of_decide_eq_true (List.all_eq_true.1 h n (DataW.weights_mem_each ht hd n hn))
theorem Wt.slice {t e : TypeId} (hu : Tryz.prog.underlying t = some (.slice e)) {el sp : List (DataW H)} (h : Wt t (.slice el sp)) : (el.length + sp.length) * Tryz.prog.bytesOf e ≤ reachBytes ∧ ∀ x ∈ el, Wt e x := by
 unfold Wt at h
 simp only [DataW.weights, hu, List.mem_cons, List.mem_append] at h
 exact ⟨h _ (.inl rfl), fun x hx n hn => h n (.inr (.inl (weightsAll_mem hx n hn)))⟩
theorem Wt.fields {t : TypeId} {fs : Array Field} (hu : Tryz.prog.underlying t = some (.struct fs)) {ps : List (DataW H)} (h : Wt t (.agg ps)) {j : Nat} {T : TypeId} {d : DataW H} (hf : (fs.toList.map (·.type))[j]? = some T) (hd : ps[j]? = some d) : Wt T d := by
 unfold Wt at h
 simp only [DataW.weights, hu] at h
 exact fun n hn => h n (DataW.weights_mem_each hf hd n hn)
theorem Wt.str {t : TypeId} {s : ByteArray} (h : Wt t (.lit (.string s.data.toList) : DataW H)) : s.size ≤ reachBytes := by
 unfold Wt at h
 simp only [DataW.weights, List.mem_singleton, forall_eq, Array.length_toList] at h
 exact h
end
theorem lcons {n : Nat} : ∀ l : List Value, l.length = n + 1 → ∃ c t, l = c :: t ∧ t.length = n
 | [], h => by cases h
 | c :: t, h => ⟨c, t, rfl, Nat.succ.inj h⟩
section
variable {H : Type} {enc : TypeId × Value → H} {W : World} {base : Nat} {spare : Nat → Bool} {held : Bool}
theorem fld {fs : Array Field} {cs : List Value} {n : Nat} {ys : List (DataW H × List MemPlace)} (hf : ∀ (i : Nat) (f : Field), fs[i]? = some f → DataW.trod enc Tryz.prog W base spare held n f.type ((cs.drop f.offset).take (Tryz.prog.cellsOf f.type)) = ys[i]?)
  {i : Nat} {f : Field} {T o k : Nat} (hi : fs[i]? = some f) (ht : f.type = T) (ho : f.offset = o) (hc : Tryz.prog.cellsOf T = k) : DataW.trod enc Tryz.prog W base spare held n T ((cs.drop o).take k) = ys[i]? := by
 have := hf i f hi
 rw [ht, ho, hc] at this
 exact this
theorem attrs_w {fuel : Nat} {v : Value} {y : DataW H × List MemPlace} (h : DataW.trod enc Tryz.prog W base spare held fuel 32 [v] = some y) (hs : Wt 32 y.1) :
  ∃ (A : Option Addr) (l : List S85) (c : Nat), v = .slice A l.length c ∧ l.length ≤ c ∧ l.length < 4398046511104 ∧ k85.C W A l.length l ∧ (0 < l.length → ∀ ad, A = some ad → ad.block < W.heap.size) := by
 rcases open_slice_fields Tryz.underlying32 Tryz.underlying85 (by kernel_rfl) (by kernel_rfl) h with ⟨hcs, _⟩ | ⟨x, len, cap, m, D, Pl, hcs, _, hl, hm, hmm, hx, hi⟩
 ·
  obtain rfl := List.singleton_inj.1 hcs
  exact ⟨none, [], 0, rfl, Nat.le_refl _, by simp, flat85.C' (xs := []) (by simp) (fun h => absurd h (by simp)), fun h => absurd h (by simp)⟩
 ·
  obtain rfl := List.singleton_inj.1 hcs
  subst hx
  have z := (hs.slice Tryz.underlying32).1
  rw [show Tryz.prog.bytesOf 85 = 32 by kernel_rfl] at z
  simp only [List.length_map, List.length_range] at z
  have hz : reachBytes = 140737488351232 := rfl
  have hlm : len ≤ m := by rw [hmm]; split <;> omega
  obtain ⟨xs, hxl, hxs⟩ := list_of (Q := fun i (y : S85) => W.cell? (x.add (i * 2 + 0)) = some (.string y.f0) ∧ W.cell? (x.add (i * 2 + 1)) = some (.string y.f1)) len (fun i hil => by
   obtain ⟨ys, n, _, _, _, hfld⟩ := hi i (by omega)
   obtain ⟨v0, y0, hc0, _, ht0⟩ := hfld 0 _ rfl
   obtain ⟨v1, y1, hc1, _, ht1⟩ := hfld 1 _ rfl
   obtain ⟨s0, e0, _, _⟩ := DataW.trod_string Tryz.underlying9 ht0
   obtain ⟨s1, e1, _, _⟩ := DataW.trod_string Tryz.underlying9 ht1
   simp at e0 e1
   subst e0 e1
   exact ⟨⟨s0, s1⟩, hc0, hc1⟩)
  have := flat85.C' (w := W) (A := some x) (xs := xs) (by omega) (fun _ => ⟨x, rfl, fun t u hu => by
   obtain ⟨j, i, p, rfl, hi2, hp, he⟩ := flat_split 2 (fun _ => rfl) xs t u hu
   obtain ⟨c0, c1⟩ := hxs j p hp
   match i, hi2 with
   | 0, _ => simp [enc85] at he; subst he; exact c0
   | 1, _ => simp [enc85] at he; subst he; exact c1⟩)
  subst hxl
  refine ⟨some x, xs, cap, rfl, hl, by omega, this, fun hp ad e => ?_⟩
  cases e
  obtain ⟨c0, _⟩ := hxs 0 _ (List.getElem?_eq_getElem hp)
  exact World.block_lt_of_cell? W _ c0
theorem ints_of {T n : Nat} (hu : Tryz.prog.underlying T = some (.array n 5)) (hc : Tryz.prog.cellsOf T = n) {fuel : Nat} {cs : List Value} {y : DataW H × List MemPlace} (h : DataW.trod enc Tryz.prog W base spare held fuel T cs = some y) :
  ∃ xs : List Int, xs.length = n ∧ cs = xs.map (Value.int .u8) ∧ ∀ b ∈ xs, 0 ≤ b ∧ b < 256 := by
 obtain ⟨ys, m, _, _, hcl, hyl, hf⟩ := DataW.trod_array hu h
 rw [hc] at hcl
 obtain ⟨xs, hxl, hxs⟩ := list_of (Q := fun i (k : Int) => cs[i]? = some (.int .u8 k) ∧ 0 ≤ k ∧ k < 256) n (fun i hi => by
  have h1 := hf i hi
  rw [show Tryz.prog.cellsOf 5 = 1 by kernel_rfl, Nat.mul_one, List.getElem?_eq_getElem (show i < ys.length by omega)] at h1
  obtain ⟨k, e, _, hwf⟩ := DataW.trod_int Tryz.underlying5 h1
  refine ⟨k, ?_, ?_⟩
  ·
   have := congrArg (fun l => l[0]?) e
   simpa [List.getElem?_take, List.getElem?_drop] using this
  ·
   have hw := (Lit.wf_int_iff .u8 k).1 hwf
   rw [show IntKind.u8.min = 0 from rfl, show IntKind.u8.max = 255 from rfl] at hw
   omega)
 refine ⟨xs, hxl, List.ext_getElem? fun i => ?_, fun b hb => ?_⟩
 ·
  rw [List.getElem?_map]
  rcases Nat.lt_or_ge i n with hi | hi
  ·
   have hx : xs[i]? = some xs[i] := List.getElem?_eq_getElem (by omega)
   rw [(hxs i _ hx).1, hx]; rfl
  ·
   rw [List.getElem?_eq_none (by omega), List.getElem?_eq_none (by omega)]; rfl
 ·
  obtain ⟨i, hi⟩ := List.getElem?_of_mem hb
  exact (hxs i b hi).2
theorem record_w {fuel : Nat} {cs : List Value} {y : DataW H × List MemPlace} (h : DataW.trod enc Tryz.prog W base spare held fuel 36 cs = some y) (hs : Wt 36 y.1) :
  ∃ (x : Rc) (A : Option Addr) (l : List S85) (c : Nat), x.ok ∧ cs = (x.cells (.slice A l.length c)).toList ∧ l.length ≤ c ∧ l.length < 4398046511104 ∧ k85.C W A l.length l ∧ (0 < l.length → ∀ ad, A = some ad → ad.block < W.heap.size) ∧ x.nm.size ≤ reachBytes := by
 obtain ⟨ys, n, _, hy, hcl, hyl, hf⟩ := DataW.trod_struct Tryz.underlying36 h
 rw [show Tryz.prog.cellsOf 36 = 40 by kernel_rfl] at hcl
 obtain ⟨c0, u0, rfl, g0⟩ := lcons cs hcl
 obtain ⟨c1, u1, rfl, g1⟩ := lcons u0 g0
 obtain ⟨c2, u2, rfl, g2⟩ := lcons u1 g1
 obtain ⟨c3, u3, rfl, g3⟩ := lcons u2 g2
 obtain ⟨c4, u4, rfl, g4⟩ := lcons u3 g3
 obtain ⟨c5, u5, rfl, g5⟩ := lcons u4 g4
 obtain ⟨c6, u6, rfl, g6⟩ := lcons u5 g5
 obtain ⟨c7, u7, rfl, g7⟩ := lcons u6 g6
 obtain ⟨c8, u8, rfl, g8⟩ := lcons u7 g7
 obtain ⟨c9, u9, rfl, g9⟩ := lcons u8 g8
 obtain ⟨c10, u10, rfl, g10⟩ := lcons u9 g9
 obtain ⟨c11, u11, rfl, g11⟩ := lcons u10 g10
 obtain ⟨c12, u12, rfl, g12⟩ := lcons u11 g11
 obtain ⟨c13, u13, rfl, g13⟩ := lcons u12 g12
 obtain ⟨c14, u14, rfl, g14⟩ := lcons u13 g13
 obtain ⟨c15, u15, rfl, g15⟩ := lcons u14 g14
 obtain ⟨c16, u16, rfl, g16⟩ := lcons u15 g15
 obtain ⟨c17, u17, rfl, g17⟩ := lcons u16 g16
 obtain ⟨c18, u18, rfl, g18⟩ := lcons u17 g17
 obtain ⟨c19, u19, rfl, g19⟩ := lcons u18 g18
 obtain ⟨c20, u20, rfl, g20⟩ := lcons u19 g19
 obtain ⟨c21, u21, rfl, g21⟩ := lcons u20 g20
 obtain ⟨c22, u22, rfl, g22⟩ := lcons u21 g21
 obtain ⟨c23, u23, rfl, g23⟩ := lcons u22 g22
 obtain ⟨c24, u24, rfl, g24⟩ := lcons u23 g23
 obtain ⟨c25, u25, rfl, g25⟩ := lcons u24 g24
 obtain ⟨c26, u26, rfl, g26⟩ := lcons u25 g25
 obtain ⟨c27, u27, rfl, g27⟩ := lcons u26 g26
 obtain ⟨c28, u28, rfl, g28⟩ := lcons u27 g27
 obtain ⟨c29, u29, rfl, g29⟩ := lcons u28 g28
 obtain ⟨c30, u30, rfl, g30⟩ := lcons u29 g29
 obtain ⟨c31, u31, rfl, g31⟩ := lcons u30 g30
 obtain ⟨c32, u32, rfl, g32⟩ := lcons u31 g31
 obtain ⟨c33, u33, rfl, g33⟩ := lcons u32 g32
 obtain ⟨c34, u34, rfl, g34⟩ := lcons u33 g33
 obtain ⟨c35, u35, rfl, g35⟩ := lcons u34 g34
 obtain ⟨c36, u36, rfl, g36⟩ := lcons u35 g35
 obtain ⟨c37, u37, rfl, g37⟩ := lcons u36 g36
 obtain ⟨c38, u38, rfl, g38⟩ := lcons u37 g37
 obtain ⟨c39, u39, rfl, g39⟩ := lcons u38 g38
 obtain rfl := List.eq_nil_of_length_eq_zero g39
 subst hy
 have t0 : DataW.trod enc Tryz.prog W base spare held n 3 [c0] = ys[0]? := fld hf (i := 0) rfl rfl rfl (by kernel_rfl) (k := 1) (o := 0)
 rw [List.getElem?_eq_getElem (by rw [hyl]; exact (by decide : 0 < 11))] at t0
 have t1 : DataW.trod enc Tryz.prog W base spare held n 9 [c1] = ys[1]? := fld hf (i := 1) rfl rfl rfl (by kernel_rfl) (k := 1) (o := 1)
 rw [List.getElem?_eq_getElem (by rw [hyl]; exact (by decide : 1 < 11))] at t1
 have t2 : DataW.trod enc Tryz.prog W base spare held n 32 [c2] = ys[2]? := fld hf (i := 2) rfl rfl rfl (by kernel_rfl) (k := 1) (o := 2)
 rw [List.getElem?_eq_getElem (by rw [hyl]; exact (by decide : 2 < 11))] at t2
 have t3 : DataW.trod enc Tryz.prog W base spare held n 2 [c3] = ys[3]? := fld hf (i := 3) rfl rfl rfl (by kernel_rfl) (k := 1) (o := 3)
 rw [List.getElem?_eq_getElem (by rw [hyl]; exact (by decide : 3 < 11))] at t3
 have t4 : DataW.trod enc Tryz.prog W base spare held n 2 [c4] = ys[4]? := fld hf (i := 4) rfl rfl rfl (by kernel_rfl) (k := 1) (o := 4)
 rw [List.getElem?_eq_getElem (by rw [hyl]; exact (by decide : 4 < 11))] at t4
 have t5 : DataW.trod enc Tryz.prog W base spare held n 2 [c5] = ys[5]? := fld hf (i := 5) rfl rfl rfl (by kernel_rfl) (k := 1) (o := 5)
 rw [List.getElem?_eq_getElem (by rw [hyl]; exact (by decide : 5 < 11))] at t5
 have t6 : DataW.trod enc Tryz.prog W base spare held n 3 [c6] = ys[6]? := fld hf (i := 6) rfl rfl rfl (by kernel_rfl) (k := 1) (o := 6)
 rw [List.getElem?_eq_getElem (by rw [hyl]; exact (by decide : 6 < 11))] at t6
 have t7 : DataW.trod enc Tryz.prog W base spare held n 9 [c7] = ys[7]? := fld hf (i := 7) rfl rfl rfl (by kernel_rfl) (k := 1) (o := 7)
 rw [List.getElem?_eq_getElem (by rw [hyl]; exact (by decide : 7 < 11))] at t7
 have t8 : DataW.trod enc Tryz.prog W base spare held n 33 [c8, c9, c10, c11, c12, c13, c14, c15, c16, c17, c18, c19, c20, c21, c22, c23] = ys[8]? := fld hf (i := 8) rfl rfl rfl (by kernel_rfl) (k := 16) (o := 8)
 rw [List.getElem?_eq_getElem (by rw [hyl]; exact (by decide : 8 < 11))] at t8
 have t9 : DataW.trod enc Tryz.prog W base spare held n 34 [c24, c25, c26, c27, c28, c29, c30, c31] = ys[9]? := fld hf (i := 9) rfl rfl rfl (by kernel_rfl) (k := 8) (o := 24)
 rw [List.getElem?_eq_getElem (by rw [hyl]; exact (by decide : 9 < 11))] at t9
 have t10 : DataW.trod enc Tryz.prog W base spare held n 34 [c32, c33, c34, c35, c36, c37, c38, c39] = ys[10]? := fld hf (i := 10) rfl rfl rfl (by kernel_rfl) (k := 8) (o := 32)
 rw [List.getElem?_eq_getElem (by rw [hyl]; exact (by decide : 10 < 11))] at t10
 obtain ⟨n0, e0, _, _⟩ := DataW.trod_int Tryz.underlying3 t0
 obtain ⟨s1, e1, g1, _⟩ := DataW.trod_string Tryz.underlying9 t1
 have w1 := hs.fields Tryz.underlying36 (j := 1) (T := 9) rfl (by rw [List.getElem?_map, List.getElem?_eq_getElem (by rw [hyl]; exact (by decide : 1 < 11))]; rfl)
 have w2 := hs.fields Tryz.underlying36 (j := 2) (T := 32) rfl (by rw [List.getElem?_map, List.getElem?_eq_getElem (by rw [hyl]; exact (by decide : 2 < 11))]; rfl)
 rw [g1] at w1
 obtain ⟨A, l, c, rfl, hl, hb, hC, hv⟩ := attrs_w t2 w2
 obtain ⟨n3, e3, _, _⟩ := DataW.trod_int Tryz.underlying2 t3
 obtain ⟨n4, e4, _, _⟩ := DataW.trod_int Tryz.underlying2 t4
 obtain ⟨n5, e5, _, _⟩ := DataW.trod_int Tryz.underlying2 t5
 obtain ⟨n6, e6, _, _⟩ := DataW.trod_int Tryz.underlying3 t6
 obtain ⟨s7, e7, _, _⟩ := DataW.trod_string Tryz.underlying9 t7
 obtain ⟨tr, h8, e8, b8⟩ := ints_of Tryz.underlying33 (by kernel_rfl) t8
 obtain ⟨sid, h9, e9, b9⟩ := ints_of Tryz.underlying34 (by kernel_rfl) t9
 obtain ⟨pa, h10, e10, _⟩ := ints_of Tryz.underlying34 (by kernel_rfl) t10
 refine ⟨⟨n0, s1, n3, n4, n5, n6, s7, tr, sid, pa⟩, A, l, c, ⟨h8, h9, h10, b8, b9⟩, ?_, hl, hb, hC, hv, w1.str⟩
 show [c0, c1, Value.slice A l.length c, c3, c4, c5, c6, c7, c8, c9, c10, c11, c12, c13, c14, c15, c16, c17, c18, c19, c20, c21, c22, c23, c24, c25, c26, c27, c28, c29, c30, c31, c32, c33, c34, c35, c36, c37, c38, c39] = _
 show [c0] ++ [c1] ++ [Value.slice A l.length c] ++ [c3] ++ [c4] ++ [c5] ++ [c6] ++ [c7] ++ ([c8, c9, c10, c11, c12, c13, c14, c15, c16, c17, c18, c19, c20, c21, c22, c23] ++ ([c24, c25, c26, c27, c28, c29, c30, c31] ++ [c32, c33, c34, c35, c36, c37, c38, c39])) = _
 rw [e0, e1, e3, e4, e5, e6, e7, e8, e9, e10]
 rfl
end
end Go.Proofs.YtefeibndnghejaaGreatDoor.Pr
end
