import Derived.Test.YtkedidjjhhjdbaaGreatDoorD0
import Derived.Test.YtkedidjjhhjdbaaGreatDoorD16
import Derived.Test.YtkedidjjhhjdbaaGreatDoorD8
import Derived.Deep.CutBlock
set_option linter.unusedVariables false
set_option linter.unusedSimpArgs false
namespace Go.Proofs.YtkedidjjhhjdbaaGreatDoor.Pr
open Go.RowKit Go.Proofs.YtkedidjjhhjdbaaGreatDoorW.PrintWords Go.Proofs.YtkedidjjhhjdbaaGreatDoorW.PrintLast Go.Proofs.YtkedidjjhhjdbaaGreatDoorW.PrintMore
open List renaming setIfInBounds_toArray → LsA, set_cons_zero → LsZ, set_cons_succ → LsS
def belfrylaw11_PolicyDenies.T12 : Bool × List (List Nat × List Nat) := (true, [([], []), ([], []), ([0, 1], [0, 1]), ([2], [2]), ([3], [3]), ([4], [4]), ([5, 4], [5]), ([6], [6]), ([6], [6]), ([7, 8, 6], [6, 7, 8]), ([9, 6], [6, 9]), ([10, 6], [6, 10]), ([6, 11], [6, 11]), ([12, 6], [12]), ([13], [13]), ([13], [13]), ([14, 15, 13], [13, 14, 15]), ([16, 13], [13, 16]), ([17, 13], [13, 17]), ([18, 13], [13, 18]), ([19, 13, 13], [13, 19]), ([20], [20]), ([20], [20]), ([21, 22, 20], [20, 21, 22]), ([23, 20], [20, 23]), ([24, 20], [20, 24]), ([20], [20]), ([25, 26, 20], [20, 25, 26]), ([20, 27, 13], [13, 20, 27]), ([13, 28], [13, 28]), ([29, 20], [29]), ([30], [30]), ([30], [30]), ([31, 32, 30], [30, 31, 32]), ([33, 30], [30, 33]), ([34, 30], [30, 34]), ([35, 30], [30, 35]), ([36, 30, 30], [30, 36]), ([37], [37]), ([37], [37]), ([38, 39, 37], [37, 38, 39]), ([40, 37], [37, 40]), ([41, 37], [37, 41]), ([37], [37]), ([42, 43, 37], [37, 42, 43]), ([37, 44, 30], [30, 37, 44]), ([30, 45], [30, 45]), ([46, 37], [46]), ([47], [47]), ([48, 47], [47, 48]), ([47], [47]), ([47], [47]), ([50, 51, 47], [47, 50, 51]), ([52, 47], [47, 52]), ([53, 47], [47, 53]), ([49, 54, 47, 47], [47, 49, 54]), ([47, 55], [47, 55])])
def belfrylaw11_PolicyDenies.B12 : List Nat := [0, 0, 3, 7, 15, 31, 63, 127, 127, 511, 1023, 2047, 4095, 8191, 16383, 16383, 65535, 131071, 262143, 524287, 1048575, 2097151, 2097151, 8388607, 16777215, 33554431, 2097151, 134217727, 268435455, 536870911, 1073741823, 2147483647, 2147483647, 8589934591, 17179869183, 34359738367, 68719476735, 137438953471, 274877906943, 274877906943, 1099511627775, 2199023255551, 4398046511103, 274877906943, 17592186044415, 35184372088831, 70368744177663, 140737488355327, 281474976710655, 562949953421311, 281474976710655, 281474976710655, 3659174697238527, 8162774324609023, 17169973579350015, 36028797018963967, 72057594037927935]
set_option maxRecDepth 100000 in
theorem belfrylaw11_PolicyDenies.tab12 : rtab .any (opsOf Tryz.f7 12) = belfrylaw11_PolicyDenies.T12 := by kernel_rfl
set_option maxRecDepth 100000 in
theorem belfrylaw11_PolicyDenies.bits12 : waitsOk belfrylaw11_PolicyDenies.T12.2 belfrylaw11_PolicyDenies.B12 = true := by kernel_rfl
def belfrylaw11_PolicyDenies.T18 : Bool × List (List Nat × List Nat) := (true, [([], []), ([0], [0]), ([], []), ([], []), ([2, 3], [2, 3]), ([4], [4]), ([5], [5]), ([1, 6], [1, 6])])
def belfrylaw11_PolicyDenies.B18 : List Nat := [0, 1, 0, 0, 12, 28, 60, 127]
set_option maxRecDepth 100000 in
theorem belfrylaw11_PolicyDenies.tab18 : rtab .any (opsOf Tryz.f7 18) = belfrylaw11_PolicyDenies.T18 := by kernel_rfl
set_option maxRecDepth 100000 in
theorem belfrylaw11_PolicyDenies.bits18 : waitsOk belfrylaw11_PolicyDenies.T18.2 belfrylaw11_PolicyDenies.B18 = true := by kernel_rfl
def belfrylaw11_PolicyDenies.T26 : Bool × List (List Nat × List Nat) := (true, [([], []), ([0], [0]), ([], []), ([1, 2], [1, 2]), ([3], [3]), ([4], [4]), ([], []), ([], []), ([6, 7], [6, 7]), ([8], [8]), ([5, 9], [5, 9])])
def belfrylaw11_PolicyDenies.B26 : List Nat := [0, 1, 0, 7, 15, 31, 0, 0, 192, 448, 1023]
set_option maxRecDepth 100000 in
theorem belfrylaw11_PolicyDenies.tab26 : rtab .any (opsOf Tryz.f7 26) = belfrylaw11_PolicyDenies.T26 := by kernel_rfl
set_option maxRecDepth 100000 in
theorem belfrylaw11_PolicyDenies.bits26 : waitsOk belfrylaw11_PolicyDenies.T26.2 belfrylaw11_PolicyDenies.B26 = true := by kernel_rfl
def bB (m : Nat) : Array Bool := ((List.range 57).map fun i => m.testBit i).toArray
def hidF (k : Nat) (ts : List S62) : List S31 → Option (List ByteArray)
  | [] => some []
  | x :: xs => (belfryref04_Fits.f k ts x.f1).bind fun b => if b = true then some x.f2 else hidF k ts xs
structure DeF (k : Nat) (l : List S46) (o v : ByteArray) (kd : Int) (ts : List S62) (vs : List S31) (r : Option (List S62)) : Prop where
  pv : policy_Views.f k l o v kd = some vs
  s1 : policy_Sees.go k ts vs = some r
  own : (o.toList == v.toList) = true → 1 ≤ kd → kd ≤ 3 → r = some ts
  same : ∀ ys, r = some ys → belfryref04_Same.f k ys ys = some true
  same0 : belfryref04_Same.f k [] [] = some true
  rule : (o.toList == v.toList) = false → r.isSome = true → ∀ x ∈ l, ∃ e b, belfryref11_Right.f k x.f0 x.f1 x.f2 x.f3 x.f4 = some e ∧ belfryref04_Fits.f k ts x.f3 = some b ∧ ¬(e = 0 ∧ x.f0 = true ∧ ((x.f2.toList == ([42] : List UInt8)) = true ∨ (x.f2.toList == v.toList) = true) ∧ ((x.f1 == 0) = true ∨ (x.f1 == kd) = true) ∧ b = true)
  hid : ∃ hd, hidF k ts vs = some hd ∧ ∀ ys, r = some ys → ∀ y ∈ ys, ∀ h ∈ hd, (y.f0.toList == h.toList) = false
set_option maxHeartbeats 8000000 in
set_option maxRecDepth 100000 in
theorem denies_walk (k kk : Nat) (A : Option Addr) (c : Nat) (l : List S46) (o v : ByteArray) (kd : Int) (x : Rc) (hx : x.ok) (B : Option Addr) (cb : Nat) (ts : List S62) (w : World)
  (hr : Kd.C k46 w A l.length l) (hc : l.length ≤ c) (ha : Kd.C k62 w B ts.length ts) (hac : ts.length ≤ cb) (hk : belfrylaw11_known.f kk = some true)
  (h : l.length ≤ 200 → ∃ vs r, DeF k l o v kd ts vs r) (he : EnvW w) :
  Calls Tryz.prog 7 #[.slice A l.length c, .string o, .string v, .int .i64 kd, .agg (x.cells (.slice B ts.length cb))] w fun e w' => e = .returned (.bool true) ∧ Below w.heap.size w w' := by
 have hu52 := Tryz.underlying52; have hu46 := Tryz.underlying46; have hu31 := Tryz.underlying31; have HR := Aside0.mk hr; have HE := Aside0.mk he; have HK := Aside0.mk hk; have HA := Aside0.mk ha; have HX := Aside0.mk hx; clear hr hk ha he hx
 obtain ⟨cs, hcs⟩ : ∃ cs, cs = x.cells (.slice B ts.length cb) := ⟨_, rfl⟩
 rw [← hcs]
 have hs : cs.size = 40 := by rw [hcs]; exact Rc.size HX.out _
 have h1 : cs.all (·.oneCell') = true := by rw [hcs]; exact Rc.ones x rfl
 have h2 : cs[2]? = some (.slice B ts.length cb) := by rw [hcs]; exact Rc.at2 x _
 have HCS := Aside0.mk hcs; have H1 := Aside0.mk h1; clear hcs h1; by_cases hl : l.length ≤ 200; rotate_left
 ·
  have b0 : decide (200 < (l.length : Int)) = true := decide_eq_true (by omega)
  have b1 : decide (200 < l.length) = true := decide_eq_true (by omega)
  go_enter Tryz.func7, Tryz.ntmps7
  go_wp2_with fail
  refine (known.calls kk _ HK.out (env_alloc HE.out)).mono ?_
  rintro e w1 ⟨rfl, hb⟩
  go_wp2; go_ret
  exact ⟨rfl, below_step (below_alloc (Below.refl _ _) _) hb⟩
 obtain ⟨vs, r, hF⟩ := h hl
 have HF := Aside0.mk hF
 have b0 : decide (200 < (l.length : Int)) = false := decide_eq_false (by omega)
 have b1 : decide (200 < l.length) = false := decide_eq_false (by omega)
 clear h hF
 go_enter Tryz.func7, Tryz.ntmps7
 have HW : Aside0 ((w.alloc (.cells cs 52)).heap[w.heap.size]? = some (.cells cs 52 (0, 0)) ∧ Below w.heap.size w (w.alloc (.cells cs 52))) := ⟨blk_new w _, below_alloc (Below.refl _ _) _⟩
 go_wp2_with fail
 generalize w.alloc (.cells cs 52) = W1 at HW ⊢
 refine (policy_Views.calls k A c l o v kd vs W1 (Kd.C_below HR.out HW.out.2) hc HF.out.pv (env_below HE.out HW.out.2)).mono ?_
 rintro e W2 ⟨uv, rfl, hRv, hb2⟩
 obtain ⟨AV, cV, rfl⟩ := Kd.R_slice hRv
 have HV := Aside0.mk (kV_C (Kd.R_reads' hRv).2.2); have hvc := (Kd.R_reads' hRv).2.1; have hvm := Kd.C_max HV.out
 replace HW := Aside0.mk (And.intro (blk_below HW.out.1 hb2) (below_step HW.out.2 hb2))
 clear hRv hb2
 go_wp2_with (refine wpList_load_row rfl 52 (.tmp 9) rfl w.heap.size rfl 52 cs (0, 0) _ HW.out.1 hu52 rfl (by rw [hs]; kernel_rfl) (Aside0.out ?_))
 refine ⟨?_⟩
 go_wp2_with fail
 refine (policy_Sees.calls k AV cV vs cs B cb ts r W2 HV.out hvc hs H1.out h2 (Kd.C_below HA.out HW.out.2) hac HF.out.s1 (env_below HE.out HW.out.2)).mono ?_
 rintro e w3 ⟨hSeen, hb3⟩
 rw [HCS.out] at hSeen
 obtain ⟨oc, rfl, hS⟩ := seen_out hSeen
 have HS := Aside0.mk hS; have ho := hS.size HX.out; have HL := Aside0.mk hb3; clear hS hSeen hb3
 go_wp2_with (refine wpList_store_rowTo rfl 52 (.tmp 12) (.tmp 33) rfl rfl w3.heap.size oc rfl rfl 52 z52 (blk_new w3 (.cells z52 52)) (by rw [ho.1]; kernel_rfl) (by rw [ho.1]; rfl) ho.2 (Aside0.out ?_))
 refine ⟨?_⟩
 obtain ⟨W4, hW4⟩ : ∃ W4, W4 = (w3.alloc (.cells z52 52)).setRow w3.heap.size oc := ⟨_, rfl⟩
 obtain ⟨g, hg⟩ : ∃ g, g = w3.heap.size := ⟨_, rfl⟩
 have HG : Aside0 (W4.heap[g]? = some (.cells oc 52 (0, 0))) := ⟨by rw [hW4, hg]; exact blk_setRow (blk_new w3 _)⟩
 have hL4 : Below W2.heap.size W2 W4 := by rw [hW4]; exact below_setRow (HL.out.alloc HL.out.size _) HL.out.size _
 replace HS : Aside0 (SeenC x W2.heap.size r oc W4) := ⟨by rw [hW4]; exact (HS.out.below ((Below.refl _ _).alloc (Nat.le_refl _) _)).setRow (blk_new w3 _) _⟩
 have hW4' := hW4
 unfold z52 at hW4'
 rw [← hW4', ← hg]
 replace HV := Aside0.mk (Kd.C_below HV.out hL4)
 replace HW := Aside0.mk (And.intro (blk_below HW.out.1 hL4) (below_step HW.out.2 hL4))
 clear hW4 hW4' hg HL hL4; by_cases hov : (o.toList == v.toList) = true
 ·
  by_cases hk1 : kd < 1
  ·
   have b2 : decide (kd < 1) = true := decide_eq_true hk1
   go_wp2_with fail
   refine (known.calls kk W4 HK.out (env_below HE.out HW.out.2)).mono ?_
   rintro e w9 ⟨rfl, hb9⟩
   go_wp2; go_ret
   exact ⟨rfl, below_step HW.out.2 hb9⟩
  have b2 : decide (kd < 1) = false := decide_eq_false hk1
  by_cases hk3 : 3 < kd
  ·
   have b3 : decide (3 < kd) = true := decide_eq_true hk3
   go_wp2_with fail
   refine (known.calls kk W4 HK.out (env_below HE.out HW.out.2)).mono ?_
   rintro e w9 ⟨rfl, hb9⟩
   go_wp2; go_ret
   exact ⟨rfl, below_step HW.out.2 hb9⟩
  have b3 : decide (3 < kd) = false := decide_eq_false hk3
  have er := HF.out.own hov (by omega) (by omega); subst er
  obtain ⟨A5, c5, rfl, hR5⟩ := HS.out.some ts rfl
  have HR5 := Aside0.mk hR5; clear hR5; simp only [Option.isSome_some]
  go_wp2_with (first
   | refine wpList_load_on 52 (.tmp 12) rfl (by rfl) g rfl 52 _ (0, 0) _ HG.out hu52 rfl (by rw [Rc.size HX.out]; kernel_rfl) ?_
   | refine wpList_load_on 52 (.tmp 9) rfl (by rfl) w.heap.size rfl 52 cs (0, 0) _ HW.out.1 hu52 rfl (by rw [hs]; kernel_rfl) ?_)
  refine (show Calls Tryz.prog 27 #[.agg (x.cells (.slice A5 ts.length c5)), .agg cs] W4 fun e w' => e = .returned (.bool true) ∧ Below W4.heap.size W4 w' from HCS.out ▸ one_walk k x HX.out A5 B c5 cb ts W4 (Kd.R_reads' HR5.out).2.2 (Kd.R_reads' HR5.out).2.1 (Kd.C_below HA.out HW.out.2) hac (HF.out.same ts rfl)).mono ?_
  rintro e w8 ⟨rfl, hb8⟩
  have HB8 := Aside0.mk (below_step HW.out.2 hb8); clear hb8 HG HS HR5 HV
  go_wp2_with fail
  refine (known.calls kk w8 HK.out (env_below HE.out HB8.out)).mono ?_
  rintro e w9 ⟨rfl, hb9⟩
  go_wp2; go_ret
  exact ⟨rfl, below_step HB8.out hb9⟩
 replace hov := Bool.eq_false_iff.2 hov
 cases hr : r with
 | none =>
  subst hr
  obtain rfl := HS.out.none rfl
  simp only [Option.isSome_none]
  go_wp2_with (first
   | refine wpList_load_row rfl 52 (.tmp 12) rfl g rfl 52 z52 (0, 0) _ HG.out hu52 rfl (by kernel_rfl) ?_
   | refine Go.wpList_buildTo rfl 52 #[] rfl (some 58) rfl z52 (by kernel_rfl) ?_)
  refine (one_walk k zrc zrc_ok none none 0 0 [] W4 (C_nil62 W4) (Nat.le_refl _) (C_nil62 W4) (Nat.le_refl _) HF.out.same0).mono ?_
  rintro e w8 ⟨rfl, hb8⟩
  have HB8 := Aside0.mk (below_step HW.out.2 hb8); clear hb8 HG HS HV
  go_wp2_with fail
  refine (known.calls kk w8 HK.out (env_below HE.out HB8.out)).mono ?_
  rintro e w9 ⟨rfl, hb9⟩
  go_wp2; go_ret
  exact ⟨rfl, below_step HB8.out hb9⟩
 | some ys =>
  subst hr; have hrule := HF.out.rule hov rfl
  obtain ⟨A5, c5, rfl, hR5⟩ := HS.out.some ys rfl
  have HR5 := Aside0.mk hR5; have HRU := Aside0.mk hrule; clear hR5 hrule HS; simp only [Option.isSome_some]; go_wp2
  go_loopw [14] (fun v14 ws => ∃ i : Nat, i ≤ l.length ∧ v14 = .int .i64 i ∧ Aside0 (Below W4.heap.size W4 ws)) (fun v14 _ => l.length - (intOf v14).toNat)
  case atStart => exact ⟨0, Nat.zero_le _, rfl, ⟨Below.refl _ _⟩⟩
  case round =>
   obtain ⟨i, hi, rfl, HC⟩ := hrel
   by_cases hlt : i < l.length; rotate_left
   ·
    obtain rfl : i = l.length := by omega
    have b2 : decide (((l.length : Nat) : Int) < (l.length : Int)) = false := decide_eq_false (by omega)
    have b3 : decide (l.length < l.length) = false := decide_eq_false hlt
    clear hlt hi HRU
    obtain ⟨hd, hhid, hkeys⟩ := HF.out.hid
    have HH := Aside0.mk hhid; have HKY := Aside0.mk (hkeys ys rfl); clear hhid hkeys
    go_upto_block 2 with (fail)
    go_cut [15, 16, 126, 127, 128, 129, 130, 131, 132, 133, 134, 135, 136, 137, 138, 139, 140, 141, 142, 143, 144] (fun v15 _ _ _ _ _ _ _ _ _ _ _ _ _ _ _ _ _ _ _ _ wc => ∃ H ch, v15 = .slice H hd.length ch ∧ hd.length ≤ ch ∧ Aside0 (Kd.string.C wc H hd.length hd) ∧ Aside0 (Below W4.heap.size W4 wc))
    case first =>
     go_wp2
     go_loopw [15, 16] (fun v15 v16 ws => v15 = .slice none 0 0 ∧ ∃ i : Nat, i ≤ vs.length ∧ v16 = .int .i64 i ∧ Aside0 (hidF k ts (vs.drop i) = some hd) ∧ Aside0 (Below W4.heap.size W4 ws)) (fun _ v16 _ => vs.length - (intOf v16).toNat)
     case atStart => exact ⟨rfl, 0, Nat.zero_le _, rfl, HH, HC⟩
     case round =>
      clear HH HC
      obtain ⟨rfl, i, hi, rfl, HH, HC⟩ := hrel
      by_cases hlt : i < vs.length; rotate_left
      ·
       obtain rfl : i = vs.length := by omega
       have b4 : decide (((vs.length : Nat) : Int) < (vs.length : Int)) = false := decide_eq_false (by omega)
       have b5 : decide (vs.length < vs.length) = false := decide_eq_false hlt
       have hh := HH.out; rw [List.drop_length] at hh
       obtain rfl := Option.some.inj hh
       go_wp2
       go_meet
       case rel => exact ⟨none, 0, rfl, Nat.le_refl _, ⟨⟨rfl, by simp, fun h => absurd h (by simp)⟩⟩, HC⟩
      have b4 : decide ((i : Int) < (vs.length : Int)) = true := decide_eq_true (by omega)
      have b5 : decide (i < vs.length) = true := decide_eq_true hlt
      have p0 := eq_true (show (0 : Int) ≤ (i : Int) by omega)
      have q0 := eq_true (show (i : Int) < (vs.length : Int) by omega)
      have HV2 := Aside0.mk (Kd.C_below HV.out HC.out)
      obtain ⟨ad, A1, c1, A2, c2, e9, hx0, hx1, hx2, l1, g1, l2, g2⟩ := at_T31 HV2.out (i : Int) (by omega) (by omega)
      subst e9
      simp only [Int.toNat_natCast] at hx0 hx1 hx2
      have hrd : rd_T31 vs (i : Int) = vs[i] := by simp [rd_T31, List.getD_eq_getElem?_getD, List.getElem?_eq_getElem hlt]
      rw [hrd] at hx0 hx1 hx2 l1 g1 l2 g2
      have HH2 : Aside0 ((belfryref04_Fits.f k ts vs[i].f1).bind (fun b => if b = true then some vs[i].f2 else hidF k ts (vs.drop (i + 1))) = some hd) := by
       have := HH.out
       rw [List.drop_eq_getElem_cons hlt] at this
       exact ⟨this⟩
      clear HH hrd HV2
      generalize vs[i] = z at hx0 hx1 hx2 l1 g1 l2 g2 HH2
      obtain ⟨bf, hbf, hrest⟩ := Option.bind_eq_some_iff.mp HH2.out
      have HF2 := Aside0.mk hbf; have HRE := Aside0.mk hrest; have HG1 := Aside0.mk g1; have HG2 := Aside0.mk g2
      have HCW : Aside0 (wr.heap[w.heap.size]? = some (.cells cs 52 (0, 0)) ∧ Below w.heap.size w wr) := ⟨blk_below HW.out.1 HC.out, below_step HW.out.2 HC.out⟩
      clear hbf hrest HH2 g1 g2
      go_upto_region 18 with (fail)
      refine start_ (n := 8) (S := fun w' => Below wr.heap.size wr w') (ds := []) (bA 8 0) (by kernel_rfl) rfl rfl (below_drew1 (Below.refl _ _)) (fun hHeld => ?_)
      refine with_tabW belfrylaw11_PolicyDenies.tab18 belfrylaw11_PolicyDenies.bits18 (fun HT_ HW_ => ?_)
      generalize wr.drew = W0 at hHeld ⊢
      refine pur 0 (some 132) (bA 8 1) HT_ rfl rfl (by kernel_rfl) (v := ?_) (a' := ?_) (Or.inl ⟨by rfl, ?_⟩) ?_ ?_
      rotate_left
      · intro w'; go_simp; with_reducible rfl
      rotate_left
      · simp only [Act.put, LsA, LsZ, LsS, i64_w, i32_w]; rfl
      refine take_ (i := 1) (N := some 133) (v := ?_) (a' := ?_) (bA 8 3) rfl rfl (take_ofW HT_.out HW_.out (by kernel_rfl)) (fun _ _ _ h => h) (Or.inl ⟨by rfl, ?_⟩) hHeld ?_ ?_
      rotate_left
      ·
       rintro w' hw
       have y0 := (blk_cell (blk_below HCW.out.1 hw) 2).trans h2; go_simp; with_reducible rfl
      rotate_left
      · simp only [Act.put, LsA, LsZ, LsS, i64_w, i32_w]; rfl
      refine pur 2 (some 134) (bA 8 7) HT_ rfl rfl (by kernel_rfl) (v := ?_) (a' := ?_) (Or.inl ⟨by rfl, ?_⟩) ?_ ?_
      rotate_left
      · intro w'; go_simp; with_reducible rfl
      rotate_left
      · simp only [Act.put, LsA, LsZ, LsS, i64_w, i32_w]; rfl
      refine pur 3 (some 135) (bA 8 15) HT_ rfl rfl (by kernel_rfl) (v := ?_) (a' := ?_) (Or.inl ⟨by rfl, ?_⟩) ?_ ?_
      rotate_left
      · intro w'; go_simp; with_reducible rfl
      rotate_left
      · simp only [Act.put, LsA, LsZ, LsS, i64_w, i32_w]; rfl
      refine pur 4 (some 136) (bA 8 31) HT_ rfl rfl (by kernel_rfl) (v := ?_) (a' := ?_) (Or.inl ⟨by rfl, ?_⟩) ?_ ?_
      rotate_left
      · intro w'; go_simp; with_reducible rfl
      rotate_left
      · simp only [Act.put, LsA, LsZ, LsS, i64_w, i32_w]; rfl
      refine pur 5 (some 137) (bA 8 63) HT_ rfl rfl (by kernel_rfl) (v := ?_) (a' := ?_) (Or.inl ⟨by rfl, ?_⟩) ?_ ?_
      rotate_left
      · intro w'; go_simp; with_reducible rfl
      rotate_left
      · simp only [Act.put, LsA, LsZ, LsS, i64_w, i32_w]; rfl
      refine take_ (i := 6) (N := some 138) (v := ?_) (a' := ?_) (bA 8 127) rfl rfl (take_ofW HT_.out HW_.out (by kernel_rfl)) (fun _ _ _ h => h) (Or.inl ⟨by rfl, ?_⟩) hHeld ?_ ?_
      rotate_left
      ·
       rintro w' hw
       have y1 := (hw.cell (World.block_lt_of_cell? wr _ hx1)).trans hx1; go_simp; with_reducible rfl
      rotate_left
      · simp only [Act.put, LsA, LsZ, LsS, i64_w, i32_w]; rfl
      refine one_ (i := 7) (N := some 139) (bA 8 255) rfl rfl (one_of HT_.out (by kernel_rfl)) (by decide) (fun K hK => ?_)
      refine goes_ Tryz.func29 (by kernel_rfl) rfl #[.slice B ts.length cb, .slice A1 z.f1.length c1] (by rfl) rfl rfl (by (try simp only [List.map_toArray, List.map_cons, List.map_nil]); first | done | rfl) ?_
      refine (belfryref04_Fits.calls k B cb ts A1 c1 z.f1 bf _ (Kd.C_below (Kd.C_below HA.out HCW.out.2) hHeld) hac (Kd.C_below HG1.out hHeld) l1 HF2.out).mono ?_
      rintro e w2 ⟨rfl, hd2⟩
      refine ⟨_, rfl, ?_⟩
      refine hK.out _ _ (below_step hHeld hd2) (fun hHeld => ?_)
      clear hK K hd2
      refine norm_ (a' := ?_) ?_ ?_
      rotate_left
      ·
       show Act.put _ (some 139) _ = _
       simp only [Act.put, LsA, LsZ, LsS, i64_w, i32_w]; rfl
      refine done_ (done_of HT_.out (by kernel_rfl)) ?_
      generalize w2 = w9 at hHeld ⊢
      replace hx2 := (hHeld.cell (World.block_lt_of_cell? wr _ hx2)).trans hx2
      cases bf with
      | false =>
       go_wp2
       go_roundw
       case rel => exact ⟨rfl, i + 1, hlt, by go_num, HRE, ⟨HC.out.trans (hHeld.mono HC.out.size)⟩⟩
       case measure => simp [intOf]; omega
      | true =>
       have e2 : z.f2 = hd := Option.some.inj HRE.out
       go_wp2
       go_meet
       case rel => exact ⟨A2, c2, by rw [← e2], by rw [← e2]; exact l2, ⟨by rw [← e2]; exact Kd.C_below HG2.out hHeld⟩, ⟨HC.out.trans (hHeld.mono HC.out.size)⟩⟩
    clear HC HV hvc
    obtain ⟨H, ch, rfl, hch, HHD, HC⟩ := hcut
    have hym : ys.length ≤ 9223372036854775807 := R_len HR5.out
    have hhm := Kd.C_max HHD.out
    obtain ⟨W5, hW5⟩ : ∃ W5, W5 = wc := ⟨_, rfl⟩
    rw [← hW5] at HHD HC ⊢
    clear hW5; go_wp2
    go_loopw [17, 18] (fun v17 _ ws => ∃ i : Nat, i ≤ ys.length ∧ v17 = .int .i64 i ∧ Aside0 (Below W5.heap.size W5 ws)) (fun v17 _ _ => ys.length - (intOf v17).toNat)
    case atStart => exact ⟨0, Nat.zero_le _, rfl, ⟨Below.refl _ _⟩⟩
    case round =>
     obtain ⟨i, hi, rfl, HD⟩ := hrel
     have HDB := Aside0.mk (show Below W4.heap.size W4 wr from HC.out.trans (HD.out.mono HC.out.size))
     have x2 : wr.cell? ⟨g, 2, none⟩ = some (.slice A5 ys.length c5) := (blk_cell (blk_below HG.out HDB.out) 2).trans rfl
     by_cases hlt : i < ys.length; rotate_left
     ·
      obtain rfl : i = ys.length := by omega
      have b4 : decide (((ys.length : Nat) : Int) < (ys.length : Int)) = false := decide_eq_false (by omega)
      have b5 : decide (ys.length < ys.length) = false := decide_eq_false hlt
      have HWR : Aside0 (wr.heap[w.heap.size]? = some (.cells cs 52 (0, 0)) ∧ Below w.heap.size w wr) := ⟨blk_below HW.out.1 HDB.out, below_step HW.out.2 HDB.out⟩
      go_wp2_with (refine wpList_load_row rfl 52 (.tmp 9) rfl w.heap.size rfl 52 cs (0, 0) _ HWR.out.1 hu52 rfl (by rw [hs]; kernel_rfl) (Aside0.out ?_))
      refine ⟨?_⟩
      obtain ⟨WQ, hWQ⟩ : ∃ WQ, WQ = (wr.alloc (.cells z52 52)).setRow wr.heap.size cs := ⟨_, rfl⟩
      have hWQ' := hWQ
      unfold z52 at hWQ'
      have HQ : Aside0 (WQ.heap[wr.heap.size]? = some (.cells cs 52 (0, 0)) ∧ Below wr.heap.size wr WQ) := ⟨by rw [hWQ]; exact ⟨blk_setRow (blk_new wr _), below_setRow ((Below.refl _ _).alloc (Nat.le_refl _) _) (Nat.le_refl _) _⟩⟩
      go_wp2_with (refine wpList_store_rowTo rfl 52 (.tmp 19) (.tmp 169) rfl rfl wr.heap.size cs rfl rfl 52 z52 (blk_new wr (.cells z52 52)) (by rw [hs]; kernel_rfl) (by rw [hs]; rfl) H1.out (Aside0.out ?_))
      refine ⟨?_⟩
      rw [← hWQ']; clear hWQ hWQ'
      obtain ⟨gy, hgy⟩ : ∃ gy, gy = wr.heap.size := ⟨_, rfl⟩
      have hgl : g < wr.heap.size := blk_lt (blk_below HG.out HDB.out)
      have hne : g ≠ gy := by omega
      have HQG : Aside0 (WQ.heap[g]? = some (.cells (x.cells (.slice A5 ys.length c5)) 52 (0, 0))) := ⟨blk_below (blk_below HG.out HDB.out) HQ.out.2⟩
      have HQB : Aside0 (Below W4.heap.size W4 WQ) := ⟨HDB.out.trans (HQ.out.2.mono HDB.out.size)⟩
      have HQ1 : Aside0 (WQ.heap[gy]? = some (.cells cs 52 (0, 0))) := ⟨by rw [hgy]; exact HQ.out.1⟩
      have hgw : W4.heap.size ≤ gy := by rw [hgy]; exact HDB.out.size
      rw [← hgy]; clear HQ hgy HWR x2 HD HDB hgl
      have x3 : WQ.cell? ⟨g, 2, none⟩ = some (.slice A5 ys.length c5) := (blk_cell HQG.out 2).trans rfl
      have x4 : WQ.cell? ⟨gy, 2, none⟩ = some (.slice B ts.length cb) := (blk_cell HQ1.out 2).trans h2
      have x5 := blk_frozen HQ1.out 2
      go_wp2_with (refine wpList_load_row rfl 52 (.tmp 12) rfl g rfl 52 (x.cells (.slice A5 ys.length c5)) (0, 0) _ (blk_far HQG.out (by simpa using hne) _) hu52 rfl (by rw [Rc.size HX.out]; kernel_rfl) (Aside0.out ?_))
      refine ⟨?_⟩
      have HZ : Aside0 ((WQ.setCell ⟨gy, 2, none⟩ (.slice A5 ys.length c5)).heap[gy]? = some (.cells (x.cells (.slice A5 ys.length c5)) 52 (0, 0)) ∧ Below W4.heap.size W4 (WQ.setCell ⟨gy, 2, none⟩ (.slice A5 ys.length c5))) := by
       refine ⟨?_, HQB.out.setCell hgw _⟩
       have := blk_set HQ1.out 2 (.slice A5 ys.length c5)
       rw [HCS.out, Rc.set2] at this; exact this
      have HRZ := Aside0.mk (Kd.R_set (Kd.R_below (Kd.R_below HR5.out (Below.refl _ _)) HQB.out) HQ1.out (by decide) 2 (.slice A5 ys.length c5))
      generalize WQ.setCell ⟨gy, 2, none⟩ (.slice A5 ys.length c5) = WZ at HZ HRZ ⊢
      go_wp2_with (refine wpList_load_row rfl 52 (.tmp 19) rfl gy rfl 52 (x.cells (.slice A5 ys.length c5)) (0, 0) _ HZ.out.1 hu52 rfl (by rw [Rc.size HX.out]; kernel_rfl) ?_)
      refine (one_walk k x HX.out A5 A5 c5 c5 ys WZ (Kd.R_reads' HRZ.out).2.2 (Kd.R_reads' HRZ.out).2.1 (Kd.R_reads' HRZ.out).2.2 (Kd.R_reads' HRZ.out).2.1 (HF.out.same ys rfl)).mono ?_
      rintro e w8 ⟨rfl, hb8⟩
      have HB8 := Aside0.mk (below_step (below_step HW.out.2 HZ.out.2) hb8); clear hb8 HZ HRZ HQG HQ1 HQB HG x3 x4 x5
      go_wp2_with fail
      refine (known.calls kk w8 HK.out (env_below HE.out HB8.out)).mono ?_
      rintro e w9 ⟨rfl, hb9⟩
      go_wp2; go_ret
      exact ⟨rfl, below_step HB8.out hb9⟩
     have b4 : decide ((i : Int) < (ys.length : Int)) = true := decide_eq_true (by omega)
     have b5 : decide (i < ys.length) = true := decide_eq_true hlt
     have p0 := eq_true (show (0 : Int) ≤ (i : Int) by omega)
     have q0 := eq_true (show (i : Int) < (ys.length : Int) by omega)
     clear hi; go_wp2
     go_loopw [18] (fun v18 ws => ∃ j : Nat, j ≤ hd.length ∧ v18 = .int .i64 j ∧ Aside0 (Below W5.heap.size W5 ws)) (fun v18 _ => hd.length - (intOf v18).toNat)
     case atStart => exact ⟨0, Nat.zero_le _, rfl, HD⟩
     case round =>
      clear HD HDB x2
      obtain ⟨j, hj, rfl, HD⟩ := hrel
      by_cases hjl : j < hd.length; rotate_left
      ·
       obtain rfl : j = hd.length := by omega
       have b6 : decide (((hd.length : Nat) : Int) < (hd.length : Int)) = false := decide_eq_false (by omega)
       have b7 : decide (hd.length < hd.length) = false := decide_eq_false hjl
       go_wp2
       go_roundw
       case rel => exact ⟨i + 1, hlt, by go_num, HD⟩
       case measure => simp [intOf]; omega
      have b6 : decide ((j : Int) < (hd.length : Int)) = true := decide_eq_true (by omega)
      have b7 : decide (j < hd.length) = true := decide_eq_true hjl
      have p1 := eq_true (show (0 : Int) ≤ (j : Int) by omega)
      have q1 := eq_true (show (j : Int) < (hd.length : Int) by omega)
      have HDB := Aside0.mk (show Below W4.heap.size W4 wr from HC.out.trans (HD.out.mono HC.out.size)); have HY := Aside0.mk (Kd.C_below (Kd.R_reads' HR5.out).2.2 HDB.out); have HHJ := Aside0.mk (Kd.C_below HHD.out HD.out)
      have x2 : wr.cell? ⟨g, 2, none⟩ = some (.slice A5 ys.length c5) := (blk_cell (blk_below HG.out HDB.out) 2).trans rfl
      obtain ⟨ad, e9, hx0, hx1⟩ := at_T62 HY.out (i : Int) (by omega) (by omega)
      obtain ⟨ae, cc, e8, _, hK, hc0⟩ := Kd.C_get HHJ.out (⟨#[]⟩ : ByteArray) (j : Int) (by omega) (by omega)
      subst e9; subst e8
      simp only [Int.toNat_natCast] at hx0 hx1 hK hc0
      have hrd : rd_T62 ys (i : Int) = ys[i] := by simp [rd_T62, List.getD_eq_getElem?_getD, List.getElem?_eq_getElem hlt]
      rw [hrd] at hx0 hx1
      have hgd : hd.getD j ⟨#[]⟩ = hd[j] := by simp [List.getD_eq_getElem?_getD, List.getElem?_eq_getElem hjl]
      rw [hgd] at hK
      have hcc : cc = [.string hd[j]] := hK
      subst hcc
      have hxj : wr.cell? (ae.add j) = some (.string hd[j]) := by
       have := hc0 0 _ rfl
       rw [show Kd.string.sz = 1 from rfl, Nat.mul_one, Nat.add_zero] at this; exact this
      have hz := HKY.out ys[i] (List.getElem_mem hlt) hd[j] (List.getElem_mem hjl)
      generalize ys[i] = y at hx0 hx1 hz
      generalize hd[j] = hj2 at hxj hz
      clear hK hc0 hrd hgd HY HHJ
      go_upto_region 26 with (fail)
      refine start_ (n := 11) (S := fun w' => Below wr.heap.size wr w') (ds := []) (bA 11 0) (by kernel_rfl) rfl rfl (below_drew1 (Below.refl _ _)) (fun hHeld => ?_)
      refine with_tabW belfrylaw11_PolicyDenies.tab26 belfrylaw11_PolicyDenies.bits26 (fun HT_ HW_ => ?_)
      generalize wr.drew = W0 at hHeld ⊢
      refine pur 0 (some 158) (bA 11 1) HT_ rfl rfl (by kernel_rfl) (v := ?_) (a' := ?_) (Or.inl ⟨by rfl, ?_⟩) ?_ ?_
      rotate_left
      · intro w'; go_simp; with_reducible rfl
      rotate_left
      · simp only [Act.put, LsA, LsZ, LsS, i64_w, i32_w]; rfl
      refine take_ (i := 1) (N := some 159) (v := ?_) (a' := ?_) (bA 11 3) rfl rfl (take_ofW HT_.out HW_.out (by kernel_rfl)) (fun _ _ _ h => h) (Or.inl ⟨by rfl, ?_⟩) hHeld ?_ ?_
      rotate_left
      ·
       rintro w' hw
       have y0 := (hw.cell (World.block_lt_of_cell? wr _ x2)).trans x2; go_simp; with_reducible rfl
      rotate_left
      · simp only [Act.put, LsA, LsZ, LsS, i64_w, i32_w]; rfl
      refine pur 2 (some 160) (bA 11 7) HT_ rfl rfl (by kernel_rfl) (v := ?_) (a' := ?_) (Or.inl ⟨by rfl, ?_⟩) ?_ ?_
      rotate_left
      · intro w'; go_simp; with_reducible rfl
      rotate_left
      · simp only [Act.put, LsA, LsZ, LsS, i64_w, i32_w]; rfl
      refine pur 3 (some 161) (bA 11 15) HT_ rfl rfl (by kernel_rfl) (v := ?_) (a' := ?_) (Or.inl ⟨by rfl, ?_⟩) ?_ ?_
      rotate_left
      · intro w'; go_simp; with_reducible rfl
      rotate_left
      · simp only [Act.put, LsA, LsZ, LsS, i64_w, i32_w]; rfl
      refine pur 4 (some 162) (bA 11 31) HT_ rfl rfl (by kernel_rfl) (v := ?_) (a' := ?_) (Or.inl ⟨by rfl, ?_⟩) ?_ ?_
      rotate_left
      · intro w'; go_simp; with_reducible rfl
      rotate_left
      · simp only [Act.put, LsA, LsZ, LsS, i64_w, i32_w]; rfl
      refine take_ (i := 5) (N := some 163) (v := ?_) (a' := ?_) (bA 11 63) rfl rfl (take_ofW HT_.out HW_.out (by kernel_rfl)) (fun _ _ _ h => h) (Or.inl ⟨by rfl, ?_⟩) hHeld ?_ ?_
      rotate_left
      ·
       rintro w' hw
       have y1 := (hw.cell (World.block_lt_of_cell? wr _ hx0)).trans hx0; go_simp; with_reducible rfl
      rotate_left
      · simp only [Act.put, LsA, LsZ, LsS, i64_w, i32_w]; rfl
      refine pur 6 (some 164) (bA 11 127) HT_ rfl rfl (by kernel_rfl) (v := ?_) (a' := ?_) (Or.inl ⟨by rfl, ?_⟩) ?_ ?_
      rotate_left
      · intro w'; go_simp; with_reducible rfl
      rotate_left
      · simp only [Act.put, LsA, LsZ, LsS, i64_w, i32_w]; rfl
      refine pur 7 (some 165) (bA 11 255) HT_ rfl rfl (by kernel_rfl) (v := ?_) (a' := ?_) (Or.inl ⟨by rfl, ?_⟩) ?_ ?_
      rotate_left
      · intro w'; go_simp; with_reducible rfl
      rotate_left
      · simp only [Act.put, LsA, LsZ, LsS, i64_w, i32_w]; rfl
      refine pur 8 (some 166) (bA 11 511) HT_ rfl rfl (by kernel_rfl) (v := ?_) (a' := ?_) (Or.inl ⟨by rfl, ?_⟩) ?_ ?_
      rotate_left
      · intro w'; go_simp; with_reducible rfl
      rotate_left
      · simp only [Act.put, LsA, LsZ, LsS, i64_w, i32_w]; rfl
      refine take_ (i := 9) (N := some 167) (v := ?_) (a' := ?_) (bA 11 1023) rfl rfl (take_ofW HT_.out HW_.out (by kernel_rfl)) (fun _ _ _ h => h) (Or.inl ⟨by rfl, ?_⟩) hHeld ?_ ?_
      rotate_left
      ·
       rintro w' hw
       have y2 := (hw.cell (World.block_lt_of_cell? wr _ hxj)).trans hxj; go_simp; with_reducible rfl
      rotate_left
      · simp only [Act.put, LsA, LsZ, LsS, i64_w, i32_w]; rfl
      refine pur 10 (some 168) (bA 11 2047) HT_ rfl rfl (by kernel_rfl) (v := ?_) (a' := ?_) (Or.inl ⟨by rfl, ?_⟩) ?_ ?_
      rotate_left
      · intro w'; go_simp; with_reducible rfl
      rotate_left
      · simp only [Act.put, LsA, LsZ, LsS, i64_w, i32_w]; rfl
      refine done_ (done_of HT_.out (by kernel_rfl)) ?_
      generalize W0 = w9 at hHeld ⊢; go_wp2
      go_roundw
      case rel => exact ⟨j + 1, hjl, by go_num, ⟨HD.out.trans (hHeld.mono HD.out.size)⟩⟩
      case measure => simp [intOf]; omega
   have b2 : decide ((i : Int) < (l.length : Int)) = true := decide_eq_true (by omega)
   have b3 : decide (i < l.length) = true := decide_eq_true hlt
   have p0 := eq_true (show (0 : Int) ≤ (i : Int) by omega)
   have q0 := eq_true (show (i : Int) < (l.length : Int) by omega)
   have HB := Aside0.mk (below_step HW.out.2 HC.out); have HR2 := Aside0.mk (Kd.C_below HR.out HB.out)
   obtain ⟨ad, A3, c3, A4, c4, e9, hx0, hx1, hx2, hx3, hx4, l3, g3, l4, g4⟩ := at_T46 HR2.out (i : Int) (by omega) (by omega)
   subst e9
   simp only [Int.toNat_natCast] at hx0 hx1 hx2 hx3 hx4
   have hrd : rd_T46 l (i : Int) = l[i] := by simp [rd_T46, List.getD_eq_getElem?_getD, List.getElem?_eq_getElem hlt]
   rw [hrd] at hx0 hx1 hx2 hx3 hx4 l3 g3 l4 g4
   obtain ⟨er, bf, hri, hfi, hno⟩ := HRU.out l[i] (List.getElem_mem hlt)
   generalize l[i] = z at hx0 hx1 hx2 hx3 hx4 l3 g3 l4 g4 hri hfi hno
   obtain ⟨d, kx, tn, sc, hd⟩ := z
   simp only at hx0 hx1 hx2 hx3 hx4 l3 g3 l4 g4 hri hfi hno
   have HG3 := Aside0.mk g3; have HG4 := Aside0.mk g4; have HRI := Aside0.mk hri; have HFI := Aside0.mk hfi; clear g3 g4 hrd hri hfi HR2
   have HCW : Aside0 (wr.heap[w.heap.size]? = some (.cells cs 52 (0, 0))) := ⟨blk_below HW.out.1 HC.out⟩
   go_upto_region 12 with (fail)
   go_cut [69, 70, 71, 72, 73, 74, 75, 76, 77, 78, 79, 80, 81, 82, 83, 84, 85, 86, 87, 88, 89, 90, 91, 92, 93, 94, 95, 96, 97, 98, 99, 100, 101, 102, 103, 104, 105, 106, 107, 108, 109, 110, 111, 112, 113, 114, 115, 116, 117, 118, 119, 120, 121, 122, 123, 124, 125] (fun _ _ _ _ _ _ _ _ _ _ _ _ _ _ _ _ _ _ _ _ _ _ _ _ _ _ _ _ _ _ _ _ _ _ _ _ _ _ _ _ _ _ _ _ _ _ _ _ _ _ _ _ _ _ _ _ v125 wc => v125 = .bool false ∧ Aside0 (Below wr.heap.size wr wc))
   case first =>
    by_cases ce : er = 0
    case neg =>
     have z0 : (er == 0) = false := beq_false_of_ne ce
     refine start_ (n := 57) (S := fun w' => Below wr.heap.size wr w') (ds := []) (bB 0) (by kernel_rfl) rfl rfl (below_drew1 (Below.refl _ _)) (fun hHeld => ?_)
     refine with_tabW belfrylaw11_PolicyDenies.tab12 belfrylaw11_PolicyDenies.bits12 (fun HT_ HW_ => ?_)
     generalize wr.drew = W0 at hHeld ⊢
     refine pure_ (i := 0) (N := some 69) (v := ?_) (a' := ?_) (bB 1) rfl rfl (any_of HT_.out (by kernel_rfl)) (fun _ _ _ h => h) (Or.inl ⟨by rfl, ?_⟩) ?_ ?_
     rotate_left
     · intro w'; go_simp; with_reducible rfl
     rotate_left
     · simp only [Act.put, LsA, LsZ, LsS, i64_w, i32_w]; rfl
     refine pure_ (i := 1) (N := some 70) (v := ?_) (a' := ?_) (bB 3) rfl rfl (any_of HT_.out (by kernel_rfl)) (fun _ _ _ h => h) (Or.inl ⟨by rfl, ?_⟩) ?_ ?_
     rotate_left
     · intro w'; go_simp; with_reducible rfl
     rotate_left
     · simp only [Act.put, LsA, LsZ, LsS, i64_w, i32_w]; rfl
     refine pure_ (i := 2) (N := some 71) (v := ?_) (a' := ?_) (bB 7) rfl rfl (any_of HT_.out (by kernel_rfl)) (fun _ _ _ h => h) (Or.inl ⟨by rfl, ?_⟩) ?_ ?_
     rotate_left
     · intro w'; go_simp; with_reducible rfl
     rotate_left
     · simp only [Act.put, LsA, LsZ, LsS, i64_w, i32_w]; rfl
     refine take_ (i := 3) (N := some 72) (v := ?_) (a' := ?_) (bB 15) rfl rfl (take_ofW HT_.out HW_.out (by kernel_rfl)) (fun _ _ _ h => h) (Or.inl ⟨by rfl, ?_⟩) hHeld ?_ ?_
     rotate_left
     ·
      rintro w' hw
      have y0 := (hw.cell (World.block_lt_of_cell? wr _ hx0)).trans hx0; have y1 := (hw.cell (World.block_lt_of_cell? wr _ hx1)).trans hx1; have y2 := (hw.cell (World.block_lt_of_cell? wr _ hx2)).trans hx2; have y3 := (hw.cell (World.block_lt_of_cell? wr _ hx3)).trans hx3; have y4 := (hw.cell (World.block_lt_of_cell? wr _ hx4)).trans hx4; go_simp; with_reducible rfl
     rotate_left
     · simp only [Act.put, LsA, LsZ, LsS, i64_w, i32_w]; rfl
     refine one_ (i := 4) (N := some 73) (bB 31) rfl rfl (one_of HT_.out (by kernel_rfl)) (by decide) (fun K hK => ?_)
     refine goes_ Tryz.func23 (by kernel_rfl) rfl #[.agg #[.bool d, .int .i64 kx, .string tn, .slice A3 sc.length c3, .slice A4 hd.length c4]] (by rfl) rfl rfl (by (try simp only [List.map_toArray, List.map_cons, List.map_nil]); first | done | rfl) ?_
     refine (belfryref11_Right.calls k d kx tn A3 c3 sc A4 c4 hd er _ (Kd.C_below HG3.out hHeld) l3 (Kd.C_below HG4.out hHeld) l4 HRI.out).mono ?_
     rintro e w2 ⟨rfl, hd2⟩
     refine ⟨_, rfl, ?_⟩
     refine hK.out _ _ (below_step hHeld hd2) (fun hHeld => ?_)
     clear hK K hd2
     refine norm_ (a' := ?_) ?_ ?_
     rotate_left
     ·
      show Act.put _ (some 73) _ = _
      simp only [Act.put, LsA, LsZ, LsS, i64_w, i32_w]; rfl
     refine pure_ (i := 5) (N := some 74) (v := ?_) (a' := ?_) (bB 63) rfl rfl (any_of HT_.out (by kernel_rfl)) (fun _ _ _ h => h) (Or.inl ⟨by rfl, ?_⟩) ?_ ?_
     rotate_left
     · intro w'; go_simp; with_reducible rfl
     rotate_left
     · simp only [Act.put, LsA, LsZ, LsS, i64_w, i32_w]; rfl
     refine pure_ (i := 6) (N := some 75) (v := ?_) (a' := ?_) (bB 127) rfl rfl (any_of HT_.out (by kernel_rfl)) (fun _ _ _ h => h) (Or.inl ⟨by rfl, ?_⟩) ?_ ?_
     rotate_left
     · intro w'; go_simp; with_reducible rfl
     rotate_left
     · simp only [Act.put, LsA, LsZ, LsS, i64_w, i32_w]; rfl
     refine pure_ (i := 7) (N := some 76) (v := undef) (a' := ?_) (bB 255) rfl rfl (any_of HT_.out (by kernel_rfl)) (fun _ _ _ h => h) (Or.inr ⟨by rfl, rfl⟩) ?_ ?_
     rotate_left
     · simp only [Act.put, LsA, LsZ, LsS, i64_w, i32_w]; rfl
     refine pure_ (i := 8) (N := some 77) (v := undef) (a' := ?_) (bB 511) rfl rfl (any_of HT_.out (by kernel_rfl)) (fun _ _ _ h => h) (Or.inr ⟨by rfl, rfl⟩) ?_ ?_
     rotate_left
     · simp only [Act.put, LsA, LsZ, LsS, i64_w, i32_w]; rfl
     refine pure_ (i := 9) (N := some 78) (v := undef) (a' := ?_) (bB 1023) rfl rfl (any_of HT_.out (by kernel_rfl)) (fun _ _ _ h => h) (Or.inr ⟨by rfl, rfl⟩) ?_ ?_
     rotate_left
     · simp only [Act.put, LsA, LsZ, LsS, i64_w, i32_w]; rfl
     refine pure_ (i := 10) (N := some 79) (v := undef) (a' := ?_) (bB 2047) rfl rfl (any_of HT_.out (by kernel_rfl)) (fun _ _ _ h => h) (Or.inr ⟨by rfl, rfl⟩) ?_ ?_
     rotate_left
     · simp only [Act.put, LsA, LsZ, LsS, i64_w, i32_w]; rfl
     refine pure_ (i := 11) (N := some 80) (v := undef) (a' := ?_) (bB 4095) rfl rfl (any_of HT_.out (by kernel_rfl)) (fun _ _ _ h => h) (Or.inr ⟨by rfl, rfl⟩) ?_ ?_
     rotate_left
     · simp only [Act.put, LsA, LsZ, LsS, i64_w, i32_w]; rfl
     refine pure_ (i := 12) (N := some 81) (v := ?_) (a' := ?_) (bB 8191) rfl rfl (any_of HT_.out (by kernel_rfl)) (fun _ _ _ h => h) (Or.inl ⟨by rfl, ?_⟩) ?_ ?_
     rotate_left
     · intro w'; go_simp; with_reducible rfl
     rotate_left
     · simp only [Act.put, LsA, LsZ, LsS, i64_w, i32_w]; rfl
     refine pure_ (i := 13) (N := some 82) (v := ?_) (a' := ?_) (bB 16383) rfl rfl (any_of HT_.out (by kernel_rfl)) (fun _ _ _ h => h) (Or.inl ⟨by rfl, ?_⟩) ?_ ?_
     rotate_left
     · intro w'; go_simp; with_reducible rfl
     rotate_left
     · simp only [Act.put, LsA, LsZ, LsS, i64_w, i32_w]; rfl
     refine pure_ (i := 14) (N := some 83) (v := undef) (a' := ?_) (bB 32767) rfl rfl (any_of HT_.out (by kernel_rfl)) (fun _ _ _ h => h) (Or.inr ⟨by rfl, rfl⟩) ?_ ?_
     rotate_left
     · simp only [Act.put, LsA, LsZ, LsS, i64_w, i32_w]; rfl
     refine pure_ (i := 15) (N := some 84) (v := undef) (a' := ?_) (bB 65535) rfl rfl (any_of HT_.out (by kernel_rfl)) (fun _ _ _ h => h) (Or.inr ⟨by rfl, rfl⟩) ?_ ?_
     rotate_left
     · simp only [Act.put, LsA, LsZ, LsS, i64_w, i32_w]; rfl
     refine pure_ (i := 16) (N := some 85) (v := undef) (a' := ?_) (bB 131071) rfl rfl (any_of HT_.out (by kernel_rfl)) (fun _ _ _ h => h) (Or.inr ⟨by rfl, rfl⟩) ?_ ?_
     rotate_left
     · simp only [Act.put, LsA, LsZ, LsS, i64_w, i32_w]; rfl
     refine pure_ (i := 17) (N := some 86) (v := undef) (a' := ?_) (bB 262143) rfl rfl (any_of HT_.out (by kernel_rfl)) (fun _ _ _ h => h) (Or.inr ⟨by rfl, rfl⟩) ?_ ?_
     rotate_left
     · simp only [Act.put, LsA, LsZ, LsS, i64_w, i32_w]; rfl
     refine pure_ (i := 18) (N := some 87) (v := undef) (a' := ?_) (bB 524287) rfl rfl (any_of HT_.out (by kernel_rfl)) (fun _ _ _ h => h) (Or.inr ⟨by rfl, rfl⟩) ?_ ?_
     rotate_left
     · simp only [Act.put, LsA, LsZ, LsS, i64_w, i32_w]; rfl
     refine pure_ (i := 19) (N := some 88) (v := undef) (a' := ?_) (bB 1048575) rfl rfl (any_of HT_.out (by kernel_rfl)) (fun _ _ _ h => h) (Or.inr ⟨by rfl, rfl⟩) ?_ ?_
     rotate_left
     · simp only [Act.put, LsA, LsZ, LsS, i64_w, i32_w]; rfl
     refine pure_ (i := 20) (N := some 89) (v := undef) (a' := ?_) (bB 2097151) rfl rfl (any_of HT_.out (by kernel_rfl)) (fun _ _ _ h => h) (Or.inr ⟨by rfl, rfl⟩) ?_ ?_
     rotate_left
     · simp only [Act.put, LsA, LsZ, LsS, i64_w, i32_w]; rfl
     refine pure_ (i := 21) (N := some 90) (v := undef) (a' := ?_) (bB 4194303) rfl rfl (any_of HT_.out (by kernel_rfl)) (fun _ _ _ h => h) (Or.inr ⟨by rfl, rfl⟩) ?_ ?_
     rotate_left
     · simp only [Act.put, LsA, LsZ, LsS, i64_w, i32_w]; rfl
     refine pure_ (i := 22) (N := some 91) (v := undef) (a' := ?_) (bB 8388607) rfl rfl (any_of HT_.out (by kernel_rfl)) (fun _ _ _ h => h) (Or.inr ⟨by rfl, rfl⟩) ?_ ?_
     rotate_left
     · simp only [Act.put, LsA, LsZ, LsS, i64_w, i32_w]; rfl
     refine pure_ (i := 23) (N := some 92) (v := undef) (a' := ?_) (bB 16777215) rfl rfl (any_of HT_.out (by kernel_rfl)) (fun _ _ _ h => h) (Or.inr ⟨by rfl, rfl⟩) ?_ ?_
     rotate_left
     · simp only [Act.put, LsA, LsZ, LsS, i64_w, i32_w]; rfl
     refine pure_ (i := 24) (N := some 93) (v := undef) (a' := ?_) (bB 33554431) rfl rfl (any_of HT_.out (by kernel_rfl)) (fun _ _ _ h => h) (Or.inr ⟨by rfl, rfl⟩) ?_ ?_
     rotate_left
     · simp only [Act.put, LsA, LsZ, LsS, i64_w, i32_w]; rfl
     refine pure_ (i := 25) (N := some 94) (v := undef) (a' := ?_) (bB 67108863) rfl rfl (any_of HT_.out (by kernel_rfl)) (fun _ _ _ h => h) (Or.inr ⟨by rfl, rfl⟩) ?_ ?_
     rotate_left
     · simp only [Act.put, LsA, LsZ, LsS, i64_w, i32_w]; rfl
     refine pure_ (i := 26) (N := some 95) (v := undef) (a' := ?_) (bB 134217727) rfl rfl (any_of HT_.out (by kernel_rfl)) (fun _ _ _ h => h) (Or.inr ⟨by rfl, rfl⟩) ?_ ?_
     rotate_left
     · simp only [Act.put, LsA, LsZ, LsS, i64_w, i32_w]; rfl
     refine pure_ (i := 27) (N := some 96) (v := undef) (a' := ?_) (bB 268435455) rfl rfl (any_of HT_.out (by kernel_rfl)) (fun _ _ _ h => h) (Or.inr ⟨by rfl, rfl⟩) ?_ ?_
     rotate_left
     · simp only [Act.put, LsA, LsZ, LsS, i64_w, i32_w]; rfl
     refine pure_ (i := 28) (N := some 97) (v := undef) (a' := ?_) (bB 536870911) rfl rfl (any_of HT_.out (by kernel_rfl)) (fun _ _ _ h => h) (Or.inr ⟨by rfl, rfl⟩) ?_ ?_
     rotate_left
     · simp only [Act.put, LsA, LsZ, LsS, i64_w, i32_w]; rfl
     refine pure_ (i := 29) (N := some 98) (v := ?_) (a' := ?_) (bB 1073741823) rfl rfl (any_of HT_.out (by kernel_rfl)) (fun _ _ _ h => h) (Or.inl ⟨by rfl, ?_⟩) ?_ ?_
     rotate_left
     · intro w'; go_simp; with_reducible rfl
     rotate_left
     · simp only [Act.put, LsA, LsZ, LsS, i64_w, i32_w]; rfl
     refine pure_ (i := 30) (N := some 99) (v := ?_) (a' := ?_) (bB 2147483647) rfl rfl (any_of HT_.out (by kernel_rfl)) (fun _ _ _ h => h) (Or.inl ⟨by rfl, ?_⟩) ?_ ?_
     rotate_left
     · intro w'; go_simp; with_reducible rfl
     rotate_left
     · simp only [Act.put, LsA, LsZ, LsS, i64_w, i32_w]; rfl
     refine pure_ (i := 31) (N := some 100) (v := undef) (a' := ?_) (bB 4294967295) rfl rfl (any_of HT_.out (by kernel_rfl)) (fun _ _ _ h => h) (Or.inr ⟨by rfl, rfl⟩) ?_ ?_
     rotate_left
     · simp only [Act.put, LsA, LsZ, LsS, i64_w, i32_w]; rfl
     refine pure_ (i := 32) (N := some 101) (v := undef) (a' := ?_) (bB 8589934591) rfl rfl (any_of HT_.out (by kernel_rfl)) (fun _ _ _ h => h) (Or.inr ⟨by rfl, rfl⟩) ?_ ?_
     rotate_left
     · simp only [Act.put, LsA, LsZ, LsS, i64_w, i32_w]; rfl
     refine pure_ (i := 33) (N := some 102) (v := undef) (a' := ?_) (bB 17179869183) rfl rfl (any_of HT_.out (by kernel_rfl)) (fun _ _ _ h => h) (Or.inr ⟨by rfl, rfl⟩) ?_ ?_
     rotate_left
     · simp only [Act.put, LsA, LsZ, LsS, i64_w, i32_w]; rfl
     refine pure_ (i := 34) (N := some 103) (v := undef) (a' := ?_) (bB 34359738367) rfl rfl (any_of HT_.out (by kernel_rfl)) (fun _ _ _ h => h) (Or.inr ⟨by rfl, rfl⟩) ?_ ?_
     rotate_left
     · simp only [Act.put, LsA, LsZ, LsS, i64_w, i32_w]; rfl
     refine pure_ (i := 35) (N := some 104) (v := undef) (a' := ?_) (bB 68719476735) rfl rfl (any_of HT_.out (by kernel_rfl)) (fun _ _ _ h => h) (Or.inr ⟨by rfl, rfl⟩) ?_ ?_
     rotate_left
     · simp only [Act.put, LsA, LsZ, LsS, i64_w, i32_w]; rfl
     refine pure_ (i := 36) (N := some 105) (v := undef) (a' := ?_) (bB 137438953471) rfl rfl (any_of HT_.out (by kernel_rfl)) (fun _ _ _ h => h) (Or.inr ⟨by rfl, rfl⟩) ?_ ?_
     rotate_left
     · simp only [Act.put, LsA, LsZ, LsS, i64_w, i32_w]; rfl
     refine pure_ (i := 37) (N := some 106) (v := undef) (a' := ?_) (bB 274877906943) rfl rfl (any_of HT_.out (by kernel_rfl)) (fun _ _ _ h => h) (Or.inr ⟨by rfl, rfl⟩) ?_ ?_
     rotate_left
     · simp only [Act.put, LsA, LsZ, LsS, i64_w, i32_w]; rfl
     refine pure_ (i := 38) (N := some 107) (v := undef) (a' := ?_) (bB 549755813887) rfl rfl (any_of HT_.out (by kernel_rfl)) (fun _ _ _ h => h) (Or.inr ⟨by rfl, rfl⟩) ?_ ?_
     rotate_left
     · simp only [Act.put, LsA, LsZ, LsS, i64_w, i32_w]; rfl
     refine pure_ (i := 39) (N := some 108) (v := undef) (a' := ?_) (bB 1099511627775) rfl rfl (any_of HT_.out (by kernel_rfl)) (fun _ _ _ h => h) (Or.inr ⟨by rfl, rfl⟩) ?_ ?_
     rotate_left
     · simp only [Act.put, LsA, LsZ, LsS, i64_w, i32_w]; rfl
     refine pure_ (i := 40) (N := some 109) (v := undef) (a' := ?_) (bB 2199023255551) rfl rfl (any_of HT_.out (by kernel_rfl)) (fun _ _ _ h => h) (Or.inr ⟨by rfl, rfl⟩) ?_ ?_
     rotate_left
     · simp only [Act.put, LsA, LsZ, LsS, i64_w, i32_w]; rfl
     refine pure_ (i := 41) (N := some 110) (v := undef) (a' := ?_) (bB 4398046511103) rfl rfl (any_of HT_.out (by kernel_rfl)) (fun _ _ _ h => h) (Or.inr ⟨by rfl, rfl⟩) ?_ ?_
     rotate_left
     · simp only [Act.put, LsA, LsZ, LsS, i64_w, i32_w]; rfl
     refine pure_ (i := 42) (N := some 111) (v := undef) (a' := ?_) (bB 8796093022207) rfl rfl (any_of HT_.out (by kernel_rfl)) (fun _ _ _ h => h) (Or.inr ⟨by rfl, rfl⟩) ?_ ?_
     rotate_left
     · simp only [Act.put, LsA, LsZ, LsS, i64_w, i32_w]; rfl
     refine pure_ (i := 43) (N := some 112) (v := undef) (a' := ?_) (bB 17592186044415) rfl rfl (any_of HT_.out (by kernel_rfl)) (fun _ _ _ h => h) (Or.inr ⟨by rfl, rfl⟩) ?_ ?_
     rotate_left
     · simp only [Act.put, LsA, LsZ, LsS, i64_w, i32_w]; rfl
     refine pure_ (i := 44) (N := some 113) (v := undef) (a' := ?_) (bB 35184372088831) rfl rfl (any_of HT_.out (by kernel_rfl)) (fun _ _ _ h => h) (Or.inr ⟨by rfl, rfl⟩) ?_ ?_
     rotate_left
     · simp only [Act.put, LsA, LsZ, LsS, i64_w, i32_w]; rfl
     refine pure_ (i := 45) (N := some 114) (v := undef) (a' := ?_) (bB 70368744177663) rfl rfl (any_of HT_.out (by kernel_rfl)) (fun _ _ _ h => h) (Or.inr ⟨by rfl, rfl⟩) ?_ ?_
     rotate_left
     · simp only [Act.put, LsA, LsZ, LsS, i64_w, i32_w]; rfl
     refine pure_ (i := 46) (N := some 115) (v := ?_) (a' := ?_) (bB 140737488355327) rfl rfl (any_of HT_.out (by kernel_rfl)) (fun _ _ _ h => h) (Or.inl ⟨by rfl, ?_⟩) ?_ ?_
     rotate_left
     · intro w'; go_simp; with_reducible rfl
     rotate_left
     · simp only [Act.put, LsA, LsZ, LsS, i64_w, i32_w]; rfl
     refine pure_ (i := 47) (N := some 116) (v := ?_) (a' := ?_) (bB 281474976710655) rfl rfl (any_of HT_.out (by kernel_rfl)) (fun _ _ _ h => h) (Or.inl ⟨by rfl, ?_⟩) ?_ ?_
     rotate_left
     · intro w'; go_simp; with_reducible rfl
     rotate_left
     · simp only [Act.put, LsA, LsZ, LsS, i64_w, i32_w]; rfl
     refine pure_ (i := 48) (N := some 117) (v := undef) (a' := ?_) (bB 562949953421311) rfl rfl (any_of HT_.out (by kernel_rfl)) (fun _ _ _ h => h) (Or.inr ⟨by rfl, rfl⟩) ?_ ?_
     rotate_left
     · simp only [Act.put, LsA, LsZ, LsS, i64_w, i32_w]; rfl
     refine pure_ (i := 49) (N := some 118) (v := undef) (a' := ?_) (bB 1125899906842623) rfl rfl (any_of HT_.out (by kernel_rfl)) (fun _ _ _ h => h) (Or.inr ⟨by rfl, rfl⟩) ?_ ?_
     rotate_left
     · simp only [Act.put, LsA, LsZ, LsS, i64_w, i32_w]; rfl
     refine pure_ (i := 50) (N := some 119) (v := undef) (a' := ?_) (bB 2251799813685247) rfl rfl (any_of HT_.out (by kernel_rfl)) (fun _ _ _ h => h) (Or.inr ⟨by rfl, rfl⟩) ?_ ?_
     rotate_left
     · simp only [Act.put, LsA, LsZ, LsS, i64_w, i32_w]; rfl
     refine pure_ (i := 51) (N := some 120) (v := undef) (a' := ?_) (bB 4503599627370495) rfl rfl (any_of HT_.out (by kernel_rfl)) (fun _ _ _ h => h) (Or.inr ⟨by rfl, rfl⟩) ?_ ?_
     rotate_left
     · simp only [Act.put, LsA, LsZ, LsS, i64_w, i32_w]; rfl
     refine pure_ (i := 52) (N := some 121) (v := undef) (a' := ?_) (bB 9007199254740991) rfl rfl (any_of HT_.out (by kernel_rfl)) (fun _ _ _ h => h) (Or.inr ⟨by rfl, rfl⟩) ?_ ?_
     rotate_left
     · simp only [Act.put, LsA, LsZ, LsS, i64_w, i32_w]; rfl
     refine pure_ (i := 53) (N := some 122) (v := undef) (a' := ?_) (bB 18014398509481983) rfl rfl (any_of HT_.out (by kernel_rfl)) (fun _ _ _ h => h) (Or.inr ⟨by rfl, rfl⟩) ?_ ?_
     rotate_left
     · simp only [Act.put, LsA, LsZ, LsS, i64_w, i32_w]; rfl
     refine pure_ (i := 54) (N := some 123) (v := undef) (a' := ?_) (bB 36028797018963967) rfl rfl (any_of HT_.out (by kernel_rfl)) (fun _ _ _ h => h) (Or.inr ⟨by rfl, rfl⟩) ?_ ?_
     rotate_left
     · simp only [Act.put, LsA, LsZ, LsS, i64_w, i32_w]; rfl
     refine pure_ (i := 55) (N := some 124) (v := undef) (a' := ?_) (bB 72057594037927935) rfl rfl (any_of HT_.out (by kernel_rfl)) (fun _ _ _ h => h) (Or.inr ⟨by rfl, rfl⟩) ?_ ?_
     rotate_left
     · simp only [Act.put, LsA, LsZ, LsS, i64_w, i32_w]; rfl
     refine pure_ (i := 56) (N := some 125) (v := ?_) (a' := ?_) (bB 144115188075855871) rfl rfl (any_of HT_.out (by kernel_rfl)) (fun _ _ _ h => h) (Or.inl ⟨by rfl, ?_⟩) ?_ ?_
     rotate_left
     · intro w'; go_simp; with_reducible rfl
     rotate_left
     · simp only [Act.put, LsA, LsZ, LsS, i64_w, i32_w]; rfl
     refine done_ (done_of HT_.out (by kernel_rfl)) ?_
     go_wp2
     go_meet
     case rel => exact ⟨rfl, ⟨hHeld⟩⟩
    subst ce
    have z0 : ((0 : Int) == 0) = true := rfl
    cases d with
    | false =>
     refine start_ (n := 57) (S := fun w' => Below wr.heap.size wr w') (ds := []) (bB 0) (by kernel_rfl) rfl rfl (below_drew1 (Below.refl _ _)) (fun hHeld => ?_)
     refine with_tabW belfrylaw11_PolicyDenies.tab12 belfrylaw11_PolicyDenies.bits12 (fun HT_ HW_ => ?_)
     generalize wr.drew = W0 at hHeld ⊢
     refine pure_ (i := 0) (N := some 69) (v := ?_) (a' := ?_) (bB 1) rfl rfl (any_of HT_.out (by kernel_rfl)) (fun _ _ _ h => h) (Or.inl ⟨by rfl, ?_⟩) ?_ ?_
     rotate_left
     · intro w'; go_simp; with_reducible rfl
     rotate_left
     · simp only [Act.put, LsA, LsZ, LsS, i64_w, i32_w]; rfl
     refine pure_ (i := 1) (N := some 70) (v := ?_) (a' := ?_) (bB 3) rfl rfl (any_of HT_.out (by kernel_rfl)) (fun _ _ _ h => h) (Or.inl ⟨by rfl, ?_⟩) ?_ ?_
     rotate_left
     · intro w'; go_simp; with_reducible rfl
     rotate_left
     · simp only [Act.put, LsA, LsZ, LsS, i64_w, i32_w]; rfl
     refine pure_ (i := 2) (N := some 71) (v := ?_) (a' := ?_) (bB 7) rfl rfl (any_of HT_.out (by kernel_rfl)) (fun _ _ _ h => h) (Or.inl ⟨by rfl, ?_⟩) ?_ ?_
     rotate_left
     · intro w'; go_simp; with_reducible rfl
     rotate_left
     · simp only [Act.put, LsA, LsZ, LsS, i64_w, i32_w]; rfl
     refine take_ (i := 3) (N := some 72) (v := ?_) (a' := ?_) (bB 15) rfl rfl (take_ofW HT_.out HW_.out (by kernel_rfl)) (fun _ _ _ h => h) (Or.inl ⟨by rfl, ?_⟩) hHeld ?_ ?_
     rotate_left
     ·
      rintro w' hw
      have y0 := (hw.cell (World.block_lt_of_cell? wr _ hx0)).trans hx0; have y1 := (hw.cell (World.block_lt_of_cell? wr _ hx1)).trans hx1; have y2 := (hw.cell (World.block_lt_of_cell? wr _ hx2)).trans hx2; have y3 := (hw.cell (World.block_lt_of_cell? wr _ hx3)).trans hx3; have y4 := (hw.cell (World.block_lt_of_cell? wr _ hx4)).trans hx4; go_simp; with_reducible rfl
     rotate_left
     · simp only [Act.put, LsA, LsZ, LsS, i64_w, i32_w]; rfl
     refine one_ (i := 4) (N := some 73) (bB 31) rfl rfl (one_of HT_.out (by kernel_rfl)) (by decide) (fun K hK => ?_)
     refine goes_ Tryz.func23 (by kernel_rfl) rfl #[.agg #[.bool false, .int .i64 kx, .string tn, .slice A3 sc.length c3, .slice A4 hd.length c4]] (by rfl) rfl rfl (by (try simp only [List.map_toArray, List.map_cons, List.map_nil]); first | done | rfl) ?_
     refine (belfryref11_Right.calls k false kx tn A3 c3 sc A4 c4 hd 0 _ (Kd.C_below HG3.out hHeld) l3 (Kd.C_below HG4.out hHeld) l4 HRI.out).mono ?_
     rintro e w2 ⟨rfl, hd2⟩
     refine ⟨_, rfl, ?_⟩
     refine hK.out _ _ (below_step hHeld hd2) (fun hHeld => ?_)
     clear hK K hd2
     refine norm_ (a' := ?_) ?_ ?_
     rotate_left
     ·
      show Act.put _ (some 73) _ = _
      simp only [Act.put, LsA, LsZ, LsS, i64_w, i32_w]; rfl
     refine pure_ (i := 5) (N := some 74) (v := ?_) (a' := ?_) (bB 63) rfl rfl (any_of HT_.out (by kernel_rfl)) (fun _ _ _ h => h) (Or.inl ⟨by rfl, ?_⟩) ?_ ?_
     rotate_left
     · intro w'; go_simp; with_reducible rfl
     rotate_left
     · simp only [Act.put, LsA, LsZ, LsS, i64_w, i32_w]; rfl
     refine pure_ (i := 6) (N := some 75) (v := ?_) (a' := ?_) (bB 127) rfl rfl (any_of HT_.out (by kernel_rfl)) (fun _ _ _ h => h) (Or.inl ⟨by rfl, ?_⟩) ?_ ?_
     rotate_left
     · intro w'; go_simp; with_reducible rfl
     rotate_left
     · simp only [Act.put, LsA, LsZ, LsS, i64_w, i32_w]; rfl
     refine pure_ (i := 7) (N := some 76) (v := ?_) (a' := ?_) (bB 255) rfl rfl (any_of HT_.out (by kernel_rfl)) (fun _ _ _ h => h) (Or.inl ⟨by rfl, ?_⟩) ?_ ?_
     rotate_left
     · intro w'; go_simp; with_reducible rfl
     rotate_left
     · simp only [Act.put, LsA, LsZ, LsS, i64_w, i32_w]; rfl
     refine pure_ (i := 8) (N := some 77) (v := ?_) (a' := ?_) (bB 511) rfl rfl (any_of HT_.out (by kernel_rfl)) (fun _ _ _ h => h) (Or.inl ⟨by rfl, ?_⟩) ?_ ?_
     rotate_left
     · intro w'; go_simp; with_reducible rfl
     rotate_left
     · simp only [Act.put, LsA, LsZ, LsS, i64_w, i32_w]; rfl
     refine pure_ (i := 9) (N := some 78) (v := ?_) (a' := ?_) (bB 1023) rfl rfl (any_of HT_.out (by kernel_rfl)) (fun _ _ _ h => h) (Or.inl ⟨by rfl, ?_⟩) ?_ ?_
     rotate_left
     · intro w'; go_simp; with_reducible rfl
     rotate_left
     · simp only [Act.put, LsA, LsZ, LsS, i64_w, i32_w]; rfl
     refine pure_ (i := 10) (N := some 79) (v := ?_) (a' := ?_) (bB 2047) rfl rfl (any_of HT_.out (by kernel_rfl)) (fun _ _ _ h => h) (Or.inl ⟨by rfl, ?_⟩) ?_ ?_
     rotate_left
     · intro w'; go_simp; with_reducible rfl
     rotate_left
     · simp only [Act.put, LsA, LsZ, LsS, i64_w, i32_w]; rfl
     refine take_ (i := 11) (N := some 80) (v := ?_) (a' := ?_) (bB 4095) rfl rfl (take_ofW HT_.out HW_.out (by kernel_rfl)) (fun _ _ _ h => h) (Or.inl ⟨by rfl, ?_⟩) hHeld ?_ ?_
     rotate_left
     ·
      rintro w' hw
      have y0 := (hw.cell (World.block_lt_of_cell? wr _ hx0)).trans hx0; go_simp; with_reducible rfl
     rotate_left
     · simp only [Act.put, LsA, LsZ, LsS, i64_w, i32_w]; rfl
     refine pure_ (i := 12) (N := some 81) (v := ?_) (a' := ?_) (bB 8191) rfl rfl (any_of HT_.out (by kernel_rfl)) (fun _ _ _ h => h) (Or.inl ⟨by rfl, ?_⟩) ?_ ?_
     rotate_left
     · intro w'; go_simp; with_reducible rfl
     rotate_left
     · simp only [Act.put, LsA, LsZ, LsS, i64_w, i32_w]; rfl
     refine pure_ (i := 13) (N := some 82) (v := ?_) (a' := ?_) (bB 16383) rfl rfl (any_of HT_.out (by kernel_rfl)) (fun _ _ _ h => h) (Or.inl ⟨by rfl, ?_⟩) ?_ ?_
     rotate_left
     · intro w'; go_simp; with_reducible rfl
     rotate_left
     · simp only [Act.put, LsA, LsZ, LsS, i64_w, i32_w]; rfl
     refine pure_ (i := 14) (N := some 83) (v := undef) (a' := ?_) (bB 32767) rfl rfl (any_of HT_.out (by kernel_rfl)) (fun _ _ _ h => h) (Or.inr ⟨by rfl, rfl⟩) ?_ ?_
     rotate_left
     · simp only [Act.put, LsA, LsZ, LsS, i64_w, i32_w]; rfl
     refine pure_ (i := 15) (N := some 84) (v := undef) (a' := ?_) (bB 65535) rfl rfl (any_of HT_.out (by kernel_rfl)) (fun _ _ _ h => h) (Or.inr ⟨by rfl, rfl⟩) ?_ ?_
     rotate_left
     · simp only [Act.put, LsA, LsZ, LsS, i64_w, i32_w]; rfl
     refine pure_ (i := 16) (N := some 85) (v := undef) (a' := ?_) (bB 131071) rfl rfl (any_of HT_.out (by kernel_rfl)) (fun _ _ _ h => h) (Or.inr ⟨by rfl, rfl⟩) ?_ ?_
     rotate_left
     · simp only [Act.put, LsA, LsZ, LsS, i64_w, i32_w]; rfl
     refine pure_ (i := 17) (N := some 86) (v := undef) (a' := ?_) (bB 262143) rfl rfl (any_of HT_.out (by kernel_rfl)) (fun _ _ _ h => h) (Or.inr ⟨by rfl, rfl⟩) ?_ ?_
     rotate_left
     · simp only [Act.put, LsA, LsZ, LsS, i64_w, i32_w]; rfl
     refine pure_ (i := 18) (N := some 87) (v := undef) (a' := ?_) (bB 524287) rfl rfl (any_of HT_.out (by kernel_rfl)) (fun _ _ _ h => h) (Or.inr ⟨by rfl, rfl⟩) ?_ ?_
     rotate_left
     · simp only [Act.put, LsA, LsZ, LsS, i64_w, i32_w]; rfl
     refine pure_ (i := 19) (N := some 88) (v := undef) (a' := ?_) (bB 1048575) rfl rfl (any_of HT_.out (by kernel_rfl)) (fun _ _ _ h => h) (Or.inr ⟨by rfl, rfl⟩) ?_ ?_
     rotate_left
     · simp only [Act.put, LsA, LsZ, LsS, i64_w, i32_w]; rfl
     refine pure_ (i := 20) (N := some 89) (v := undef) (a' := ?_) (bB 2097151) rfl rfl (any_of HT_.out (by kernel_rfl)) (fun _ _ _ h => h) (Or.inr ⟨by rfl, rfl⟩) ?_ ?_
     rotate_left
     · simp only [Act.put, LsA, LsZ, LsS, i64_w, i32_w]; rfl
     refine pure_ (i := 21) (N := some 90) (v := undef) (a' := ?_) (bB 4194303) rfl rfl (any_of HT_.out (by kernel_rfl)) (fun _ _ _ h => h) (Or.inr ⟨by rfl, rfl⟩) ?_ ?_
     rotate_left
     · simp only [Act.put, LsA, LsZ, LsS, i64_w, i32_w]; rfl
     refine pure_ (i := 22) (N := some 91) (v := undef) (a' := ?_) (bB 8388607) rfl rfl (any_of HT_.out (by kernel_rfl)) (fun _ _ _ h => h) (Or.inr ⟨by rfl, rfl⟩) ?_ ?_
     rotate_left
     · simp only [Act.put, LsA, LsZ, LsS, i64_w, i32_w]; rfl
     refine pure_ (i := 23) (N := some 92) (v := undef) (a' := ?_) (bB 16777215) rfl rfl (any_of HT_.out (by kernel_rfl)) (fun _ _ _ h => h) (Or.inr ⟨by rfl, rfl⟩) ?_ ?_
     rotate_left
     · simp only [Act.put, LsA, LsZ, LsS, i64_w, i32_w]; rfl
     refine pure_ (i := 24) (N := some 93) (v := undef) (a' := ?_) (bB 33554431) rfl rfl (any_of HT_.out (by kernel_rfl)) (fun _ _ _ h => h) (Or.inr ⟨by rfl, rfl⟩) ?_ ?_
     rotate_left
     · simp only [Act.put, LsA, LsZ, LsS, i64_w, i32_w]; rfl
     refine pure_ (i := 25) (N := some 94) (v := undef) (a' := ?_) (bB 67108863) rfl rfl (any_of HT_.out (by kernel_rfl)) (fun _ _ _ h => h) (Or.inr ⟨by rfl, rfl⟩) ?_ ?_
     rotate_left
     · simp only [Act.put, LsA, LsZ, LsS, i64_w, i32_w]; rfl
     refine pure_ (i := 26) (N := some 95) (v := undef) (a' := ?_) (bB 134217727) rfl rfl (any_of HT_.out (by kernel_rfl)) (fun _ _ _ h => h) (Or.inr ⟨by rfl, rfl⟩) ?_ ?_
     rotate_left
     · simp only [Act.put, LsA, LsZ, LsS, i64_w, i32_w]; rfl
     refine pure_ (i := 27) (N := some 96) (v := undef) (a' := ?_) (bB 268435455) rfl rfl (any_of HT_.out (by kernel_rfl)) (fun _ _ _ h => h) (Or.inr ⟨by rfl, rfl⟩) ?_ ?_
     rotate_left
     · simp only [Act.put, LsA, LsZ, LsS, i64_w, i32_w]; rfl
     refine pure_ (i := 28) (N := some 97) (v := undef) (a' := ?_) (bB 536870911) rfl rfl (any_of HT_.out (by kernel_rfl)) (fun _ _ _ h => h) (Or.inr ⟨by rfl, rfl⟩) ?_ ?_
     rotate_left
     · simp only [Act.put, LsA, LsZ, LsS, i64_w, i32_w]; rfl
     refine pure_ (i := 29) (N := some 98) (v := ?_) (a' := ?_) (bB 1073741823) rfl rfl (any_of HT_.out (by kernel_rfl)) (fun _ _ _ h => h) (Or.inl ⟨by rfl, ?_⟩) ?_ ?_
     rotate_left
     · intro w'; go_simp; with_reducible rfl
     rotate_left
     · simp only [Act.put, LsA, LsZ, LsS, i64_w, i32_w]; rfl
     refine pure_ (i := 30) (N := some 99) (v := ?_) (a' := ?_) (bB 2147483647) rfl rfl (any_of HT_.out (by kernel_rfl)) (fun _ _ _ h => h) (Or.inl ⟨by rfl, ?_⟩) ?_ ?_
     rotate_left
     · intro w'; go_simp; with_reducible rfl
     rotate_left
     · simp only [Act.put, LsA, LsZ, LsS, i64_w, i32_w]; rfl
     refine pure_ (i := 31) (N := some 100) (v := undef) (a' := ?_) (bB 4294967295) rfl rfl (any_of HT_.out (by kernel_rfl)) (fun _ _ _ h => h) (Or.inr ⟨by rfl, rfl⟩) ?_ ?_
     rotate_left
     · simp only [Act.put, LsA, LsZ, LsS, i64_w, i32_w]; rfl
     refine pure_ (i := 32) (N := some 101) (v := undef) (a' := ?_) (bB 8589934591) rfl rfl (any_of HT_.out (by kernel_rfl)) (fun _ _ _ h => h) (Or.inr ⟨by rfl, rfl⟩) ?_ ?_
     rotate_left
     · simp only [Act.put, LsA, LsZ, LsS, i64_w, i32_w]; rfl
     refine pure_ (i := 33) (N := some 102) (v := undef) (a' := ?_) (bB 17179869183) rfl rfl (any_of HT_.out (by kernel_rfl)) (fun _ _ _ h => h) (Or.inr ⟨by rfl, rfl⟩) ?_ ?_
     rotate_left
     · simp only [Act.put, LsA, LsZ, LsS, i64_w, i32_w]; rfl
     refine pure_ (i := 34) (N := some 103) (v := undef) (a' := ?_) (bB 34359738367) rfl rfl (any_of HT_.out (by kernel_rfl)) (fun _ _ _ h => h) (Or.inr ⟨by rfl, rfl⟩) ?_ ?_
     rotate_left
     · simp only [Act.put, LsA, LsZ, LsS, i64_w, i32_w]; rfl
     refine pure_ (i := 35) (N := some 104) (v := undef) (a' := ?_) (bB 68719476735) rfl rfl (any_of HT_.out (by kernel_rfl)) (fun _ _ _ h => h) (Or.inr ⟨by rfl, rfl⟩) ?_ ?_
     rotate_left
     · simp only [Act.put, LsA, LsZ, LsS, i64_w, i32_w]; rfl
     refine pure_ (i := 36) (N := some 105) (v := undef) (a' := ?_) (bB 137438953471) rfl rfl (any_of HT_.out (by kernel_rfl)) (fun _ _ _ h => h) (Or.inr ⟨by rfl, rfl⟩) ?_ ?_
     rotate_left
     · simp only [Act.put, LsA, LsZ, LsS, i64_w, i32_w]; rfl
     refine pure_ (i := 37) (N := some 106) (v := undef) (a' := ?_) (bB 274877906943) rfl rfl (any_of HT_.out (by kernel_rfl)) (fun _ _ _ h => h) (Or.inr ⟨by rfl, rfl⟩) ?_ ?_
     rotate_left
     · simp only [Act.put, LsA, LsZ, LsS, i64_w, i32_w]; rfl
     refine pure_ (i := 38) (N := some 107) (v := undef) (a' := ?_) (bB 549755813887) rfl rfl (any_of HT_.out (by kernel_rfl)) (fun _ _ _ h => h) (Or.inr ⟨by rfl, rfl⟩) ?_ ?_
     rotate_left
     · simp only [Act.put, LsA, LsZ, LsS, i64_w, i32_w]; rfl
     refine pure_ (i := 39) (N := some 108) (v := undef) (a' := ?_) (bB 1099511627775) rfl rfl (any_of HT_.out (by kernel_rfl)) (fun _ _ _ h => h) (Or.inr ⟨by rfl, rfl⟩) ?_ ?_
     rotate_left
     · simp only [Act.put, LsA, LsZ, LsS, i64_w, i32_w]; rfl
     refine pure_ (i := 40) (N := some 109) (v := undef) (a' := ?_) (bB 2199023255551) rfl rfl (any_of HT_.out (by kernel_rfl)) (fun _ _ _ h => h) (Or.inr ⟨by rfl, rfl⟩) ?_ ?_
     rotate_left
     · simp only [Act.put, LsA, LsZ, LsS, i64_w, i32_w]; rfl
     refine pure_ (i := 41) (N := some 110) (v := undef) (a' := ?_) (bB 4398046511103) rfl rfl (any_of HT_.out (by kernel_rfl)) (fun _ _ _ h => h) (Or.inr ⟨by rfl, rfl⟩) ?_ ?_
     rotate_left
     · simp only [Act.put, LsA, LsZ, LsS, i64_w, i32_w]; rfl
     refine pure_ (i := 42) (N := some 111) (v := undef) (a' := ?_) (bB 8796093022207) rfl rfl (any_of HT_.out (by kernel_rfl)) (fun _ _ _ h => h) (Or.inr ⟨by rfl, rfl⟩) ?_ ?_
     rotate_left
     · simp only [Act.put, LsA, LsZ, LsS, i64_w, i32_w]; rfl
     refine pure_ (i := 43) (N := some 112) (v := undef) (a' := ?_) (bB 17592186044415) rfl rfl (any_of HT_.out (by kernel_rfl)) (fun _ _ _ h => h) (Or.inr ⟨by rfl, rfl⟩) ?_ ?_
     rotate_left
     · simp only [Act.put, LsA, LsZ, LsS, i64_w, i32_w]; rfl
     refine pure_ (i := 44) (N := some 113) (v := undef) (a' := ?_) (bB 35184372088831) rfl rfl (any_of HT_.out (by kernel_rfl)) (fun _ _ _ h => h) (Or.inr ⟨by rfl, rfl⟩) ?_ ?_
     rotate_left
     · simp only [Act.put, LsA, LsZ, LsS, i64_w, i32_w]; rfl
     refine pure_ (i := 45) (N := some 114) (v := undef) (a' := ?_) (bB 70368744177663) rfl rfl (any_of HT_.out (by kernel_rfl)) (fun _ _ _ h => h) (Or.inr ⟨by rfl, rfl⟩) ?_ ?_
     rotate_left
     · simp only [Act.put, LsA, LsZ, LsS, i64_w, i32_w]; rfl
     refine pure_ (i := 46) (N := some 115) (v := ?_) (a' := ?_) (bB 140737488355327) rfl rfl (any_of HT_.out (by kernel_rfl)) (fun _ _ _ h => h) (Or.inl ⟨by rfl, ?_⟩) ?_ ?_
     rotate_left
     · intro w'; go_simp; with_reducible rfl
     rotate_left
     · simp only [Act.put, LsA, LsZ, LsS, i64_w, i32_w]; rfl
     refine pure_ (i := 47) (N := some 116) (v := ?_) (a' := ?_) (bB 281474976710655) rfl rfl (any_of HT_.out (by kernel_rfl)) (fun _ _ _ h => h) (Or.inl ⟨by rfl, ?_⟩) ?_ ?_
     rotate_left
     · intro w'; go_simp; with_reducible rfl
     rotate_left
     · simp only [Act.put, LsA, LsZ, LsS, i64_w, i32_w]; rfl
     refine pure_ (i := 48) (N := some 117) (v := undef) (a' := ?_) (bB 562949953421311) rfl rfl (any_of HT_.out (by kernel_rfl)) (fun _ _ _ h => h) (Or.inr ⟨by rfl, rfl⟩) ?_ ?_
     rotate_left
     · simp only [Act.put, LsA, LsZ, LsS, i64_w, i32_w]; rfl
     refine pure_ (i := 49) (N := some 118) (v := undef) (a' := ?_) (bB 1125899906842623) rfl rfl (any_of HT_.out (by kernel_rfl)) (fun _ _ _ h => h) (Or.inr ⟨by rfl, rfl⟩) ?_ ?_
     rotate_left
     · simp only [Act.put, LsA, LsZ, LsS, i64_w, i32_w]; rfl
     refine pure_ (i := 50) (N := some 119) (v := undef) (a' := ?_) (bB 2251799813685247) rfl rfl (any_of HT_.out (by kernel_rfl)) (fun _ _ _ h => h) (Or.inr ⟨by rfl, rfl⟩) ?_ ?_
     rotate_left
     · simp only [Act.put, LsA, LsZ, LsS, i64_w, i32_w]; rfl
     refine pure_ (i := 51) (N := some 120) (v := undef) (a' := ?_) (bB 4503599627370495) rfl rfl (any_of HT_.out (by kernel_rfl)) (fun _ _ _ h => h) (Or.inr ⟨by rfl, rfl⟩) ?_ ?_
     rotate_left
     · simp only [Act.put, LsA, LsZ, LsS, i64_w, i32_w]; rfl
     refine pure_ (i := 52) (N := some 121) (v := undef) (a' := ?_) (bB 9007199254740991) rfl rfl (any_of HT_.out (by kernel_rfl)) (fun _ _ _ h => h) (Or.inr ⟨by rfl, rfl⟩) ?_ ?_
     rotate_left
     · simp only [Act.put, LsA, LsZ, LsS, i64_w, i32_w]; rfl
     refine pure_ (i := 53) (N := some 122) (v := undef) (a' := ?_) (bB 18014398509481983) rfl rfl (any_of HT_.out (by kernel_rfl)) (fun _ _ _ h => h) (Or.inr ⟨by rfl, rfl⟩) ?_ ?_
     rotate_left
     · simp only [Act.put, LsA, LsZ, LsS, i64_w, i32_w]; rfl
     refine pure_ (i := 54) (N := some 123) (v := undef) (a' := ?_) (bB 36028797018963967) rfl rfl (any_of HT_.out (by kernel_rfl)) (fun _ _ _ h => h) (Or.inr ⟨by rfl, rfl⟩) ?_ ?_
     rotate_left
     · simp only [Act.put, LsA, LsZ, LsS, i64_w, i32_w]; rfl
     refine pure_ (i := 55) (N := some 124) (v := undef) (a' := ?_) (bB 72057594037927935) rfl rfl (any_of HT_.out (by kernel_rfl)) (fun _ _ _ h => h) (Or.inr ⟨by rfl, rfl⟩) ?_ ?_
     rotate_left
     · simp only [Act.put, LsA, LsZ, LsS, i64_w, i32_w]; rfl
     refine pure_ (i := 56) (N := some 125) (v := ?_) (a' := ?_) (bB 144115188075855871) rfl rfl (any_of HT_.out (by kernel_rfl)) (fun _ _ _ h => h) (Or.inl ⟨by rfl, ?_⟩) ?_ ?_
     rotate_left
     · intro w'; go_simp; with_reducible rfl
     rotate_left
     · simp only [Act.put, LsA, LsZ, LsS, i64_w, i32_w]; rfl
     refine done_ (done_of HT_.out (by kernel_rfl)) ?_
     go_wp2
     go_meet
     case rel => exact ⟨rfl, ⟨hHeld⟩⟩
    | true =>
     by_cases cs1 : (tn.toList == ([42] : List UInt8)) = true
     case pos =>
      have cst := Or.inl (b := (tn.toList == v.toList) = true) cs1; by_cases ck : (kx == 0) = true
      case pos =>
       have hb0 : bf = false := Bool.eq_false_iff.2 (fun hh => hno ⟨rfl, rfl, cst, .inl ck, hh⟩)
       subst hb0
       refine start_ (n := 57) (S := fun w' => Below wr.heap.size wr w') (ds := []) (bB 0) (by kernel_rfl) rfl rfl (below_drew1 (Below.refl _ _)) (fun hHeld => ?_)
       refine with_tabW belfrylaw11_PolicyDenies.tab12 belfrylaw11_PolicyDenies.bits12 (fun HT_ HW_ => ?_)
       generalize wr.drew = W0 at hHeld ⊢
       refine pure_ (i := 0) (N := some 69) (v := ?_) (a' := ?_) (bB 1) rfl rfl (any_of HT_.out (by kernel_rfl)) (fun _ _ _ h => h) (Or.inl ⟨by rfl, ?_⟩) ?_ ?_
       rotate_left
       · intro w'; go_simp; with_reducible rfl
       rotate_left
       · simp only [Act.put, LsA, LsZ, LsS, i64_w, i32_w]; rfl
       refine pure_ (i := 1) (N := some 70) (v := ?_) (a' := ?_) (bB 3) rfl rfl (any_of HT_.out (by kernel_rfl)) (fun _ _ _ h => h) (Or.inl ⟨by rfl, ?_⟩) ?_ ?_
       rotate_left
       · intro w'; go_simp; with_reducible rfl
       rotate_left
       · simp only [Act.put, LsA, LsZ, LsS, i64_w, i32_w]; rfl
       refine pure_ (i := 2) (N := some 71) (v := ?_) (a' := ?_) (bB 7) rfl rfl (any_of HT_.out (by kernel_rfl)) (fun _ _ _ h => h) (Or.inl ⟨by rfl, ?_⟩) ?_ ?_
       rotate_left
       · intro w'; go_simp; with_reducible rfl
       rotate_left
       · simp only [Act.put, LsA, LsZ, LsS, i64_w, i32_w]; rfl
       refine take_ (i := 3) (N := some 72) (v := ?_) (a' := ?_) (bB 15) rfl rfl (take_ofW HT_.out HW_.out (by kernel_rfl)) (fun _ _ _ h => h) (Or.inl ⟨by rfl, ?_⟩) hHeld ?_ ?_
       rotate_left
       ·
        rintro w' hw
        have y0 := (hw.cell (World.block_lt_of_cell? wr _ hx0)).trans hx0; have y1 := (hw.cell (World.block_lt_of_cell? wr _ hx1)).trans hx1; have y2 := (hw.cell (World.block_lt_of_cell? wr _ hx2)).trans hx2; have y3 := (hw.cell (World.block_lt_of_cell? wr _ hx3)).trans hx3; have y4 := (hw.cell (World.block_lt_of_cell? wr _ hx4)).trans hx4; go_simp; with_reducible rfl
       rotate_left
       · simp only [Act.put, LsA, LsZ, LsS, i64_w, i32_w]; rfl
       refine one_ (i := 4) (N := some 73) (bB 31) rfl rfl (one_of HT_.out (by kernel_rfl)) (by decide) (fun K hK => ?_)
       refine goes_ Tryz.func23 (by kernel_rfl) rfl #[.agg #[.bool true, .int .i64 kx, .string tn, .slice A3 sc.length c3, .slice A4 hd.length c4]] (by rfl) rfl rfl (by (try simp only [List.map_toArray, List.map_cons, List.map_nil]); first | done | rfl) ?_
       refine (belfryref11_Right.calls k true kx tn A3 c3 sc A4 c4 hd 0 _ (Kd.C_below HG3.out hHeld) l3 (Kd.C_below HG4.out hHeld) l4 HRI.out).mono ?_
       rintro e w2 ⟨rfl, hd2⟩
       refine ⟨_, rfl, ?_⟩
       refine hK.out _ _ (below_step hHeld hd2) (fun hHeld => ?_)
       clear hK K hd2
       refine norm_ (a' := ?_) ?_ ?_
       rotate_left
       ·
        show Act.put _ (some 73) _ = _
        simp only [Act.put, LsA, LsZ, LsS, i64_w, i32_w]; rfl
       refine pure_ (i := 5) (N := some 74) (v := ?_) (a' := ?_) (bB 63) rfl rfl (any_of HT_.out (by kernel_rfl)) (fun _ _ _ h => h) (Or.inl ⟨by rfl, ?_⟩) ?_ ?_
       rotate_left
       · intro w'; go_simp; with_reducible rfl
       rotate_left
       · simp only [Act.put, LsA, LsZ, LsS, i64_w, i32_w]; rfl
       refine pure_ (i := 6) (N := some 75) (v := ?_) (a' := ?_) (bB 127) rfl rfl (any_of HT_.out (by kernel_rfl)) (fun _ _ _ h => h) (Or.inl ⟨by rfl, ?_⟩) ?_ ?_
       rotate_left
       · intro w'; go_simp; with_reducible rfl
       rotate_left
       · simp only [Act.put, LsA, LsZ, LsS, i64_w, i32_w]; rfl
       refine pure_ (i := 7) (N := some 76) (v := ?_) (a' := ?_) (bB 255) rfl rfl (any_of HT_.out (by kernel_rfl)) (fun _ _ _ h => h) (Or.inl ⟨by rfl, ?_⟩) ?_ ?_
       rotate_left
       · intro w'; go_simp; with_reducible rfl
       rotate_left
       · simp only [Act.put, LsA, LsZ, LsS, i64_w, i32_w]; rfl
       refine pure_ (i := 8) (N := some 77) (v := ?_) (a' := ?_) (bB 511) rfl rfl (any_of HT_.out (by kernel_rfl)) (fun _ _ _ h => h) (Or.inl ⟨by rfl, ?_⟩) ?_ ?_
       rotate_left
       · intro w'; go_simp; with_reducible rfl
       rotate_left
       · simp only [Act.put, LsA, LsZ, LsS, i64_w, i32_w]; rfl
       refine pure_ (i := 9) (N := some 78) (v := ?_) (a' := ?_) (bB 1023) rfl rfl (any_of HT_.out (by kernel_rfl)) (fun _ _ _ h => h) (Or.inl ⟨by rfl, ?_⟩) ?_ ?_
       rotate_left
       · intro w'; go_simp; with_reducible rfl
       rotate_left
       · simp only [Act.put, LsA, LsZ, LsS, i64_w, i32_w]; rfl
       refine pure_ (i := 10) (N := some 79) (v := ?_) (a' := ?_) (bB 2047) rfl rfl (any_of HT_.out (by kernel_rfl)) (fun _ _ _ h => h) (Or.inl ⟨by rfl, ?_⟩) ?_ ?_
       rotate_left
       · intro w'; go_simp; with_reducible rfl
       rotate_left
       · simp only [Act.put, LsA, LsZ, LsS, i64_w, i32_w]; rfl
       refine take_ (i := 11) (N := some 80) (v := ?_) (a' := ?_) (bB 4095) rfl rfl (take_ofW HT_.out HW_.out (by kernel_rfl)) (fun _ _ _ h => h) (Or.inl ⟨by rfl, ?_⟩) hHeld ?_ ?_
       rotate_left
       ·
        rintro w' hw
        have y0 := (hw.cell (World.block_lt_of_cell? wr _ hx0)).trans hx0; go_simp; with_reducible rfl
       rotate_left
       · simp only [Act.put, LsA, LsZ, LsS, i64_w, i32_w]; rfl
       refine pure_ (i := 12) (N := some 81) (v := ?_) (a' := ?_) (bB 8191) rfl rfl (any_of HT_.out (by kernel_rfl)) (fun _ _ _ h => h) (Or.inl ⟨by rfl, ?_⟩) ?_ ?_
       rotate_left
       · intro w'; go_simp; with_reducible rfl
       rotate_left
       · simp only [Act.put, LsA, LsZ, LsS, i64_w, i32_w]; rfl
       refine pure_ (i := 13) (N := some 82) (v := ?_) (a' := ?_) (bB 16383) rfl rfl (any_of HT_.out (by kernel_rfl)) (fun _ _ _ h => h) (Or.inl ⟨by rfl, ?_⟩) ?_ ?_
       rotate_left
       · intro w'; go_simp; with_reducible rfl
       rotate_left
       · simp only [Act.put, LsA, LsZ, LsS, i64_w, i32_w]; rfl
       refine pure_ (i := 14) (N := some 83) (v := ?_) (a' := ?_) (bB 32767) rfl rfl (any_of HT_.out (by kernel_rfl)) (fun _ _ _ h => h) (Or.inl ⟨by rfl, ?_⟩) ?_ ?_
       rotate_left
       · intro w'; go_simp; with_reducible rfl
       rotate_left
       · simp only [Act.put, LsA, LsZ, LsS, i64_w, i32_w]; rfl
       refine pure_ (i := 15) (N := some 84) (v := ?_) (a' := ?_) (bB 65535) rfl rfl (any_of HT_.out (by kernel_rfl)) (fun _ _ _ h => h) (Or.inl ⟨by rfl, ?_⟩) ?_ ?_
       rotate_left
       · intro w'; go_simp; with_reducible rfl
       rotate_left
       · simp only [Act.put, LsA, LsZ, LsS, i64_w, i32_w]; rfl
       refine pure_ (i := 16) (N := some 85) (v := ?_) (a' := ?_) (bB 131071) rfl rfl (any_of HT_.out (by kernel_rfl)) (fun _ _ _ h => h) (Or.inl ⟨by rfl, ?_⟩) ?_ ?_
       rotate_left
       · intro w'; go_simp; with_reducible rfl
       rotate_left
       · simp only [Act.put, LsA, LsZ, LsS, i64_w, i32_w]; rfl
       refine pure_ (i := 17) (N := some 86) (v := ?_) (a' := ?_) (bB 262143) rfl rfl (any_of HT_.out (by kernel_rfl)) (fun _ _ _ h => h) (Or.inl ⟨by rfl, ?_⟩) ?_ ?_
       rotate_left
       · intro w'; go_simp; with_reducible rfl
       rotate_left
       · simp only [Act.put, LsA, LsZ, LsS, i64_w, i32_w]; rfl
       refine take_ (i := 18) (N := some 87) (v := ?_) (a' := ?_) (bB 524287) rfl rfl (take_ofW HT_.out HW_.out (by kernel_rfl)) (fun _ _ _ h => h) (Or.inl ⟨by rfl, ?_⟩) hHeld ?_ ?_
       rotate_left
       ·
        rintro w' hw
        have y2 := (hw.cell (World.block_lt_of_cell? wr _ hx2)).trans hx2; go_simp; with_reducible rfl
       rotate_left
       · simp only [Act.put, LsA, LsZ, LsS, i64_w, i32_w]; rfl
       refine pure_ (i := 19) (N := some 88) (v := ?_) (a' := ?_) (bB 1048575) rfl rfl (any_of HT_.out (by kernel_rfl)) (fun _ _ _ h => h) (Or.inl ⟨by rfl, ?_⟩) ?_ ?_
       rotate_left
       · intro w'; go_simp; with_reducible rfl
       rotate_left
       · simp only [Act.put, LsA, LsZ, LsS, i64_w, i32_w]; rfl
       refine pure_ (i := 20) (N := some 89) (v := ?_) (a' := ?_) (bB 2097151) rfl rfl (any_of HT_.out (by kernel_rfl)) (fun _ _ _ h => h) (Or.inl ⟨by rfl, ?_⟩) ?_ ?_
       rotate_left
       · intro w'; go_simp; with_reducible rfl
       rotate_left
       · simp only [Act.put, LsA, LsZ, LsS, i64_w, i32_w]; rfl
       refine pure_ (i := 21) (N := some 90) (v := undef) (a' := ?_) (bB 4194303) rfl rfl (any_of HT_.out (by kernel_rfl)) (fun _ _ _ h => h) (Or.inr ⟨by rfl, rfl⟩) ?_ ?_
       rotate_left
       · simp only [Act.put, LsA, LsZ, LsS, i64_w, i32_w]; rfl
       refine pure_ (i := 22) (N := some 91) (v := undef) (a' := ?_) (bB 8388607) rfl rfl (any_of HT_.out (by kernel_rfl)) (fun _ _ _ h => h) (Or.inr ⟨by rfl, rfl⟩) ?_ ?_
       rotate_left
       · simp only [Act.put, LsA, LsZ, LsS, i64_w, i32_w]; rfl
       refine pure_ (i := 23) (N := some 92) (v := undef) (a' := ?_) (bB 16777215) rfl rfl (any_of HT_.out (by kernel_rfl)) (fun _ _ _ h => h) (Or.inr ⟨by rfl, rfl⟩) ?_ ?_
       rotate_left
       · simp only [Act.put, LsA, LsZ, LsS, i64_w, i32_w]; rfl
       refine pure_ (i := 24) (N := some 93) (v := undef) (a' := ?_) (bB 33554431) rfl rfl (any_of HT_.out (by kernel_rfl)) (fun _ _ _ h => h) (Or.inr ⟨by rfl, rfl⟩) ?_ ?_
       rotate_left
       · simp only [Act.put, LsA, LsZ, LsS, i64_w, i32_w]; rfl
       refine pure_ (i := 25) (N := some 94) (v := undef) (a' := ?_) (bB 67108863) rfl rfl (any_of HT_.out (by kernel_rfl)) (fun _ _ _ h => h) (Or.inr ⟨by rfl, rfl⟩) ?_ ?_
       rotate_left
       · simp only [Act.put, LsA, LsZ, LsS, i64_w, i32_w]; rfl
       refine pure_ (i := 26) (N := some 95) (v := undef) (a' := ?_) (bB 134217727) rfl rfl (any_of HT_.out (by kernel_rfl)) (fun _ _ _ h => h) (Or.inr ⟨by rfl, rfl⟩) ?_ ?_
       rotate_left
       · simp only [Act.put, LsA, LsZ, LsS, i64_w, i32_w]; rfl
       refine pure_ (i := 27) (N := some 96) (v := undef) (a' := ?_) (bB 268435455) rfl rfl (any_of HT_.out (by kernel_rfl)) (fun _ _ _ h => h) (Or.inr ⟨by rfl, rfl⟩) ?_ ?_
       rotate_left
       · simp only [Act.put, LsA, LsZ, LsS, i64_w, i32_w]; rfl
       refine pure_ (i := 28) (N := some 97) (v := ?_) (a' := ?_) (bB 536870911) rfl rfl (any_of HT_.out (by kernel_rfl)) (fun _ _ _ h => h) (Or.inl ⟨by rfl, ?_⟩) ?_ ?_
       rotate_left
       · intro w'; go_simp; with_reducible rfl
       rotate_left
       · simp only [Act.put, LsA, LsZ, LsS, i64_w, i32_w]; rfl
       refine pure_ (i := 29) (N := some 98) (v := ?_) (a' := ?_) (bB 1073741823) rfl rfl (any_of HT_.out (by kernel_rfl)) (fun _ _ _ h => h) (Or.inl ⟨by rfl, ?_⟩) ?_ ?_
       rotate_left
       · intro w'; go_simp; with_reducible rfl
       rotate_left
       · simp only [Act.put, LsA, LsZ, LsS, i64_w, i32_w]; rfl
       refine pure_ (i := 30) (N := some 99) (v := ?_) (a' := ?_) (bB 2147483647) rfl rfl (any_of HT_.out (by kernel_rfl)) (fun _ _ _ h => h) (Or.inl ⟨by rfl, ?_⟩) ?_ ?_
       rotate_left
       · intro w'; go_simp; with_reducible rfl
       rotate_left
       · simp only [Act.put, LsA, LsZ, LsS, i64_w, i32_w]; rfl
       refine pure_ (i := 31) (N := some 100) (v := ?_) (a' := ?_) (bB 4294967295) rfl rfl (any_of HT_.out (by kernel_rfl)) (fun _ _ _ h => h) (Or.inl ⟨by rfl, ?_⟩) ?_ ?_
       rotate_left
       · intro w'; go_simp; with_reducible rfl
       rotate_left
       · simp only [Act.put, LsA, LsZ, LsS, i64_w, i32_w]; rfl
       refine pure_ (i := 32) (N := some 101) (v := ?_) (a' := ?_) (bB 8589934591) rfl rfl (any_of HT_.out (by kernel_rfl)) (fun _ _ _ h => h) (Or.inl ⟨by rfl, ?_⟩) ?_ ?_
       rotate_left
       · intro w'; go_simp; with_reducible rfl
       rotate_left
       · simp only [Act.put, LsA, LsZ, LsS, i64_w, i32_w]; rfl
       refine pure_ (i := 33) (N := some 102) (v := ?_) (a' := ?_) (bB 17179869183) rfl rfl (any_of HT_.out (by kernel_rfl)) (fun _ _ _ h => h) (Or.inl ⟨by rfl, ?_⟩) ?_ ?_
       rotate_left
       · intro w'; go_simp; with_reducible rfl
       rotate_left
       · simp only [Act.put, LsA, LsZ, LsS, i64_w, i32_w]; rfl
       refine pure_ (i := 34) (N := some 103) (v := ?_) (a' := ?_) (bB 34359738367) rfl rfl (any_of HT_.out (by kernel_rfl)) (fun _ _ _ h => h) (Or.inl ⟨by rfl, ?_⟩) ?_ ?_
       rotate_left
       · intro w'; go_simp; with_reducible rfl
       rotate_left
       · simp only [Act.put, LsA, LsZ, LsS, i64_w, i32_w]; rfl
       refine take_ (i := 35) (N := some 104) (v := ?_) (a' := ?_) (bB 68719476735) rfl rfl (take_ofW HT_.out HW_.out (by kernel_rfl)) (fun _ _ _ h => h) (Or.inl ⟨by rfl, ?_⟩) hHeld ?_ ?_
       rotate_left
       ·
        rintro w' hw
        have y1 := (hw.cell (World.block_lt_of_cell? wr _ hx1)).trans hx1; go_simp; with_reducible rfl
       rotate_left
       · simp only [Act.put, LsA, LsZ, LsS, i64_w, i32_w]; rfl
       refine pure_ (i := 36) (N := some 105) (v := ?_) (a' := ?_) (bB 137438953471) rfl rfl (any_of HT_.out (by kernel_rfl)) (fun _ _ _ h => h) (Or.inl ⟨by rfl, ?_⟩) ?_ ?_
       rotate_left
       · intro w'; go_simp; with_reducible rfl
       rotate_left
       · simp only [Act.put, LsA, LsZ, LsS, i64_w, i32_w]; rfl
       refine pure_ (i := 37) (N := some 106) (v := ?_) (a' := ?_) (bB 274877906943) rfl rfl (any_of HT_.out (by kernel_rfl)) (fun _ _ _ h => h) (Or.inl ⟨by rfl, ?_⟩) ?_ ?_
       rotate_left
       · intro w'; go_simp; with_reducible rfl
       rotate_left
       · simp only [Act.put, LsA, LsZ, LsS, i64_w, i32_w]; rfl
       refine pure_ (i := 38) (N := some 107) (v := undef) (a' := ?_) (bB 549755813887) rfl rfl (any_of HT_.out (by kernel_rfl)) (fun _ _ _ h => h) (Or.inr ⟨by rfl, rfl⟩) ?_ ?_
       rotate_left
       · simp only [Act.put, LsA, LsZ, LsS, i64_w, i32_w]; rfl
       refine pure_ (i := 39) (N := some 108) (v := undef) (a' := ?_) (bB 1099511627775) rfl rfl (any_of HT_.out (by kernel_rfl)) (fun _ _ _ h => h) (Or.inr ⟨by rfl, rfl⟩) ?_ ?_
       rotate_left
       · simp only [Act.put, LsA, LsZ, LsS, i64_w, i32_w]; rfl
       refine pure_ (i := 40) (N := some 109) (v := undef) (a' := ?_) (bB 2199023255551) rfl rfl (any_of HT_.out (by kernel_rfl)) (fun _ _ _ h => h) (Or.inr ⟨by rfl, rfl⟩) ?_ ?_
       rotate_left
       · simp only [Act.put, LsA, LsZ, LsS, i64_w, i32_w]; rfl
       refine pure_ (i := 41) (N := some 110) (v := undef) (a' := ?_) (bB 4398046511103) rfl rfl (any_of HT_.out (by kernel_rfl)) (fun _ _ _ h => h) (Or.inr ⟨by rfl, rfl⟩) ?_ ?_
       rotate_left
       · simp only [Act.put, LsA, LsZ, LsS, i64_w, i32_w]; rfl
       refine pure_ (i := 42) (N := some 111) (v := undef) (a' := ?_) (bB 8796093022207) rfl rfl (any_of HT_.out (by kernel_rfl)) (fun _ _ _ h => h) (Or.inr ⟨by rfl, rfl⟩) ?_ ?_
       rotate_left
       · simp only [Act.put, LsA, LsZ, LsS, i64_w, i32_w]; rfl
       refine pure_ (i := 43) (N := some 112) (v := undef) (a' := ?_) (bB 17592186044415) rfl rfl (any_of HT_.out (by kernel_rfl)) (fun _ _ _ h => h) (Or.inr ⟨by rfl, rfl⟩) ?_ ?_
       rotate_left
       · simp only [Act.put, LsA, LsZ, LsS, i64_w, i32_w]; rfl
       refine pure_ (i := 44) (N := some 113) (v := undef) (a' := ?_) (bB 35184372088831) rfl rfl (any_of HT_.out (by kernel_rfl)) (fun _ _ _ h => h) (Or.inr ⟨by rfl, rfl⟩) ?_ ?_
       rotate_left
       · simp only [Act.put, LsA, LsZ, LsS, i64_w, i32_w]; rfl
       refine pure_ (i := 45) (N := some 114) (v := ?_) (a' := ?_) (bB 70368744177663) rfl rfl (any_of HT_.out (by kernel_rfl)) (fun _ _ _ h => h) (Or.inl ⟨by rfl, ?_⟩) ?_ ?_
       rotate_left
       · intro w'; go_simp; with_reducible rfl
       rotate_left
       · simp only [Act.put, LsA, LsZ, LsS, i64_w, i32_w]; rfl
       refine pure_ (i := 46) (N := some 115) (v := ?_) (a' := ?_) (bB 140737488355327) rfl rfl (any_of HT_.out (by kernel_rfl)) (fun _ _ _ h => h) (Or.inl ⟨by rfl, ?_⟩) ?_ ?_
       rotate_left
       · intro w'; go_simp; with_reducible rfl
       rotate_left
       · simp only [Act.put, LsA, LsZ, LsS, i64_w, i32_w]; rfl
       refine pure_ (i := 47) (N := some 116) (v := ?_) (a' := ?_) (bB 281474976710655) rfl rfl (any_of HT_.out (by kernel_rfl)) (fun _ _ _ h => h) (Or.inl ⟨by rfl, ?_⟩) ?_ ?_
       rotate_left
       · intro w'; go_simp; with_reducible rfl
       rotate_left
       · simp only [Act.put, LsA, LsZ, LsS, i64_w, i32_w]; rfl
       refine pure_ (i := 48) (N := some 117) (v := ?_) (a' := ?_) (bB 562949953421311) rfl rfl (any_of HT_.out (by kernel_rfl)) (fun _ _ _ h => h) (Or.inl ⟨by rfl, ?_⟩) ?_ ?_
       rotate_left
       · intro w'; go_simp; with_reducible rfl
       rotate_left
       · simp only [Act.put, LsA, LsZ, LsS, i64_w, i32_w]; rfl
       refine take_ (i := 49) (N := some 118) (v := ?_) (a' := ?_) (bB 1125899906842623) rfl rfl (take_ofW HT_.out HW_.out (by kernel_rfl)) (fun _ _ _ h => h) (Or.inl ⟨by rfl, ?_⟩) hHeld ?_ ?_
       rotate_left
       ·
        rintro w' hw
        have y9 := (blk_cell (blk_below HCW.out hw) 2).trans h2; go_simp; with_reducible rfl
       rotate_left
       · simp only [Act.put, LsA, LsZ, LsS, i64_w, i32_w]; rfl
       refine pure_ (i := 50) (N := some 119) (v := ?_) (a' := ?_) (bB 2251799813685247) rfl rfl (any_of HT_.out (by kernel_rfl)) (fun _ _ _ h => h) (Or.inl ⟨by rfl, ?_⟩) ?_ ?_
       rotate_left
       · intro w'; go_simp; with_reducible rfl
       rotate_left
       · simp only [Act.put, LsA, LsZ, LsS, i64_w, i32_w]; rfl
       refine pure_ (i := 51) (N := some 120) (v := ?_) (a' := ?_) (bB 4503599627370495) rfl rfl (any_of HT_.out (by kernel_rfl)) (fun _ _ _ h => h) (Or.inl ⟨by rfl, ?_⟩) ?_ ?_
       rotate_left
       · intro w'; go_simp; with_reducible rfl
       rotate_left
       · simp only [Act.put, LsA, LsZ, LsS, i64_w, i32_w]; rfl
       refine pure_ (i := 52) (N := some 121) (v := ?_) (a' := ?_) (bB 9007199254740991) rfl rfl (any_of HT_.out (by kernel_rfl)) (fun _ _ _ h => h) (Or.inl ⟨by rfl, ?_⟩) ?_ ?_
       rotate_left
       · intro w'; go_simp; with_reducible rfl
       rotate_left
       · simp only [Act.put, LsA, LsZ, LsS, i64_w, i32_w]; rfl
       refine pure_ (i := 53) (N := some 122) (v := ?_) (a' := ?_) (bB 18014398509481983) rfl rfl (any_of HT_.out (by kernel_rfl)) (fun _ _ _ h => h) (Or.inl ⟨by rfl, ?_⟩) ?_ ?_
       rotate_left
       · intro w'; go_simp; with_reducible rfl
       rotate_left
       · simp only [Act.put, LsA, LsZ, LsS, i64_w, i32_w]; rfl
       refine take_ (i := 54) (N := some 123) (v := ?_) (a' := ?_) (bB 36028797018963967) rfl rfl (take_ofW HT_.out HW_.out (by kernel_rfl)) (fun _ _ _ h => h) (Or.inl ⟨by rfl, ?_⟩) hHeld ?_ ?_
       rotate_left
       ·
        rintro w' hw
        have y3 := (hw.cell (World.block_lt_of_cell? wr _ hx3)).trans hx3; go_simp; with_reducible rfl
       rotate_left
       · simp only [Act.put, LsA, LsZ, LsS, i64_w, i32_w]; rfl
       refine one_ (i := 55) (N := some 124) (bB 72057594037927935) rfl rfl (one_of HT_.out (by kernel_rfl)) (by decide) (fun K hK => ?_)
       refine goes_ Tryz.func29 (by kernel_rfl) rfl #[.slice B ts.length cb, .slice A3 sc.length c3] (by rfl) rfl rfl (by (try simp only [List.map_toArray, List.map_cons, List.map_nil]); first | done | rfl) ?_
       refine (belfryref04_Fits.calls k B cb ts A3 c3 sc false _ (Kd.C_below (Kd.C_below HA.out HB.out) hHeld) hac (Kd.C_below HG3.out hHeld) l3 HFI.out).mono ?_
       rintro e w3 ⟨rfl, hd2⟩
       refine ⟨_, rfl, ?_⟩
       refine hK.out _ _ (below_step hHeld hd2) (fun hHeld => ?_)
       clear hK K hd2
       refine norm_ (a' := ?_) ?_ ?_
       rotate_left
       ·
        show Act.put _ (some 124) _ = _
        simp only [Act.put, LsA, LsZ, LsS, i64_w, i32_w]; rfl
       refine pure_ (i := 56) (N := some 125) (v := ?_) (a' := ?_) (bB 144115188075855871) rfl rfl (any_of HT_.out (by kernel_rfl)) (fun _ _ _ h => h) (Or.inl ⟨by rfl, ?_⟩) ?_ ?_
       rotate_left
       · intro w'; go_simp; with_reducible rfl
       rotate_left
       · simp only [Act.put, LsA, LsZ, LsS, i64_w, i32_w]; rfl
       refine done_ (done_of HT_.out (by kernel_rfl)) ?_
       go_wp2
       go_meet
       case rel => exact ⟨rfl, ⟨hHeld⟩⟩
      replace ck := Bool.eq_false_iff.2 ck
      by_cases cq : (kx == kd) = true
      case pos =>
       have hb0 : bf = false := Bool.eq_false_iff.2 (fun hh => hno ⟨rfl, rfl, cst, .inr cq, hh⟩)
       subst hb0
       refine start_ (n := 57) (S := fun w' => Below wr.heap.size wr w') (ds := []) (bB 0) (by kernel_rfl) rfl rfl (below_drew1 (Below.refl _ _)) (fun hHeld => ?_)
       refine with_tabW belfrylaw11_PolicyDenies.tab12 belfrylaw11_PolicyDenies.bits12 (fun HT_ HW_ => ?_)
       generalize wr.drew = W0 at hHeld ⊢
       refine pure_ (i := 0) (N := some 69) (v := ?_) (a' := ?_) (bB 1) rfl rfl (any_of HT_.out (by kernel_rfl)) (fun _ _ _ h => h) (Or.inl ⟨by rfl, ?_⟩) ?_ ?_
       rotate_left
       · intro w'; go_simp; with_reducible rfl
       rotate_left
       · simp only [Act.put, LsA, LsZ, LsS, i64_w, i32_w]; rfl
       refine pure_ (i := 1) (N := some 70) (v := ?_) (a' := ?_) (bB 3) rfl rfl (any_of HT_.out (by kernel_rfl)) (fun _ _ _ h => h) (Or.inl ⟨by rfl, ?_⟩) ?_ ?_
       rotate_left
       · intro w'; go_simp; with_reducible rfl
       rotate_left
       · simp only [Act.put, LsA, LsZ, LsS, i64_w, i32_w]; rfl
       refine pure_ (i := 2) (N := some 71) (v := ?_) (a' := ?_) (bB 7) rfl rfl (any_of HT_.out (by kernel_rfl)) (fun _ _ _ h => h) (Or.inl ⟨by rfl, ?_⟩) ?_ ?_
       rotate_left
       · intro w'; go_simp; with_reducible rfl
       rotate_left
       · simp only [Act.put, LsA, LsZ, LsS, i64_w, i32_w]; rfl
       refine take_ (i := 3) (N := some 72) (v := ?_) (a' := ?_) (bB 15) rfl rfl (take_ofW HT_.out HW_.out (by kernel_rfl)) (fun _ _ _ h => h) (Or.inl ⟨by rfl, ?_⟩) hHeld ?_ ?_
       rotate_left
       ·
        rintro w' hw
        have y0 := (hw.cell (World.block_lt_of_cell? wr _ hx0)).trans hx0; have y1 := (hw.cell (World.block_lt_of_cell? wr _ hx1)).trans hx1; have y2 := (hw.cell (World.block_lt_of_cell? wr _ hx2)).trans hx2; have y3 := (hw.cell (World.block_lt_of_cell? wr _ hx3)).trans hx3; have y4 := (hw.cell (World.block_lt_of_cell? wr _ hx4)).trans hx4; go_simp; with_reducible rfl
       rotate_left
       · simp only [Act.put, LsA, LsZ, LsS, i64_w, i32_w]; rfl
       refine one_ (i := 4) (N := some 73) (bB 31) rfl rfl (one_of HT_.out (by kernel_rfl)) (by decide) (fun K hK => ?_)
       refine goes_ Tryz.func23 (by kernel_rfl) rfl #[.agg #[.bool true, .int .i64 kx, .string tn, .slice A3 sc.length c3, .slice A4 hd.length c4]] (by rfl) rfl rfl (by (try simp only [List.map_toArray, List.map_cons, List.map_nil]); first | done | rfl) ?_
       refine (belfryref11_Right.calls k true kx tn A3 c3 sc A4 c4 hd 0 _ (Kd.C_below HG3.out hHeld) l3 (Kd.C_below HG4.out hHeld) l4 HRI.out).mono ?_
       rintro e w2 ⟨rfl, hd2⟩
       refine ⟨_, rfl, ?_⟩
       refine hK.out _ _ (below_step hHeld hd2) (fun hHeld => ?_)
       clear hK K hd2
       refine norm_ (a' := ?_) ?_ ?_
       rotate_left
       ·
        show Act.put _ (some 73) _ = _
        simp only [Act.put, LsA, LsZ, LsS, i64_w, i32_w]; rfl
       refine pure_ (i := 5) (N := some 74) (v := ?_) (a' := ?_) (bB 63) rfl rfl (any_of HT_.out (by kernel_rfl)) (fun _ _ _ h => h) (Or.inl ⟨by rfl, ?_⟩) ?_ ?_
       rotate_left
       · intro w'; go_simp; with_reducible rfl
       rotate_left
       · simp only [Act.put, LsA, LsZ, LsS, i64_w, i32_w]; rfl
       refine pure_ (i := 6) (N := some 75) (v := ?_) (a' := ?_) (bB 127) rfl rfl (any_of HT_.out (by kernel_rfl)) (fun _ _ _ h => h) (Or.inl ⟨by rfl, ?_⟩) ?_ ?_
       rotate_left
       · intro w'; go_simp; with_reducible rfl
       rotate_left
       · simp only [Act.put, LsA, LsZ, LsS, i64_w, i32_w]; rfl
       refine pure_ (i := 7) (N := some 76) (v := ?_) (a' := ?_) (bB 255) rfl rfl (any_of HT_.out (by kernel_rfl)) (fun _ _ _ h => h) (Or.inl ⟨by rfl, ?_⟩) ?_ ?_
       rotate_left
       · intro w'; go_simp; with_reducible rfl
       rotate_left
       · simp only [Act.put, LsA, LsZ, LsS, i64_w, i32_w]; rfl
       refine pure_ (i := 8) (N := some 77) (v := ?_) (a' := ?_) (bB 511) rfl rfl (any_of HT_.out (by kernel_rfl)) (fun _ _ _ h => h) (Or.inl ⟨by rfl, ?_⟩) ?_ ?_
       rotate_left
       · intro w'; go_simp; with_reducible rfl
       rotate_left
       · simp only [Act.put, LsA, LsZ, LsS, i64_w, i32_w]; rfl
       refine pure_ (i := 9) (N := some 78) (v := ?_) (a' := ?_) (bB 1023) rfl rfl (any_of HT_.out (by kernel_rfl)) (fun _ _ _ h => h) (Or.inl ⟨by rfl, ?_⟩) ?_ ?_
       rotate_left
       · intro w'; go_simp; with_reducible rfl
       rotate_left
       · simp only [Act.put, LsA, LsZ, LsS, i64_w, i32_w]; rfl
       refine pure_ (i := 10) (N := some 79) (v := ?_) (a' := ?_) (bB 2047) rfl rfl (any_of HT_.out (by kernel_rfl)) (fun _ _ _ h => h) (Or.inl ⟨by rfl, ?_⟩) ?_ ?_
       rotate_left
       · intro w'; go_simp; with_reducible rfl
       rotate_left
       · simp only [Act.put, LsA, LsZ, LsS, i64_w, i32_w]; rfl
       refine take_ (i := 11) (N := some 80) (v := ?_) (a' := ?_) (bB 4095) rfl rfl (take_ofW HT_.out HW_.out (by kernel_rfl)) (fun _ _ _ h => h) (Or.inl ⟨by rfl, ?_⟩) hHeld ?_ ?_
       rotate_left
       ·
        rintro w' hw
        have y0 := (hw.cell (World.block_lt_of_cell? wr _ hx0)).trans hx0; go_simp; with_reducible rfl
       rotate_left
       · simp only [Act.put, LsA, LsZ, LsS, i64_w, i32_w]; rfl
       refine pure_ (i := 12) (N := some 81) (v := ?_) (a' := ?_) (bB 8191) rfl rfl (any_of HT_.out (by kernel_rfl)) (fun _ _ _ h => h) (Or.inl ⟨by rfl, ?_⟩) ?_ ?_
       rotate_left
       · intro w'; go_simp; with_reducible rfl
       rotate_left
       · simp only [Act.put, LsA, LsZ, LsS, i64_w, i32_w]; rfl
       refine pure_ (i := 13) (N := some 82) (v := ?_) (a' := ?_) (bB 16383) rfl rfl (any_of HT_.out (by kernel_rfl)) (fun _ _ _ h => h) (Or.inl ⟨by rfl, ?_⟩) ?_ ?_
       rotate_left
       · intro w'; go_simp; with_reducible rfl
       rotate_left
       · simp only [Act.put, LsA, LsZ, LsS, i64_w, i32_w]; rfl
       refine pure_ (i := 14) (N := some 83) (v := ?_) (a' := ?_) (bB 32767) rfl rfl (any_of HT_.out (by kernel_rfl)) (fun _ _ _ h => h) (Or.inl ⟨by rfl, ?_⟩) ?_ ?_
       rotate_left
       · intro w'; go_simp; with_reducible rfl
       rotate_left
       · simp only [Act.put, LsA, LsZ, LsS, i64_w, i32_w]; rfl
       refine pure_ (i := 15) (N := some 84) (v := ?_) (a' := ?_) (bB 65535) rfl rfl (any_of HT_.out (by kernel_rfl)) (fun _ _ _ h => h) (Or.inl ⟨by rfl, ?_⟩) ?_ ?_
       rotate_left
       · intro w'; go_simp; with_reducible rfl
       rotate_left
       · simp only [Act.put, LsA, LsZ, LsS, i64_w, i32_w]; rfl
       refine pure_ (i := 16) (N := some 85) (v := ?_) (a' := ?_) (bB 131071) rfl rfl (any_of HT_.out (by kernel_rfl)) (fun _ _ _ h => h) (Or.inl ⟨by rfl, ?_⟩) ?_ ?_
       rotate_left
       · intro w'; go_simp; with_reducible rfl
       rotate_left
       · simp only [Act.put, LsA, LsZ, LsS, i64_w, i32_w]; rfl
       refine pure_ (i := 17) (N := some 86) (v := ?_) (a' := ?_) (bB 262143) rfl rfl (any_of HT_.out (by kernel_rfl)) (fun _ _ _ h => h) (Or.inl ⟨by rfl, ?_⟩) ?_ ?_
       rotate_left
       · intro w'; go_simp; with_reducible rfl
       rotate_left
       · simp only [Act.put, LsA, LsZ, LsS, i64_w, i32_w]; rfl
       refine take_ (i := 18) (N := some 87) (v := ?_) (a' := ?_) (bB 524287) rfl rfl (take_ofW HT_.out HW_.out (by kernel_rfl)) (fun _ _ _ h => h) (Or.inl ⟨by rfl, ?_⟩) hHeld ?_ ?_
       rotate_left
       ·
        rintro w' hw
        have y2 := (hw.cell (World.block_lt_of_cell? wr _ hx2)).trans hx2; go_simp; with_reducible rfl
       rotate_left
       · simp only [Act.put, LsA, LsZ, LsS, i64_w, i32_w]; rfl
       refine pure_ (i := 19) (N := some 88) (v := ?_) (a' := ?_) (bB 1048575) rfl rfl (any_of HT_.out (by kernel_rfl)) (fun _ _ _ h => h) (Or.inl ⟨by rfl, ?_⟩) ?_ ?_
       rotate_left
       · intro w'; go_simp; with_reducible rfl
       rotate_left
       · simp only [Act.put, LsA, LsZ, LsS, i64_w, i32_w]; rfl
       refine pure_ (i := 20) (N := some 89) (v := ?_) (a' := ?_) (bB 2097151) rfl rfl (any_of HT_.out (by kernel_rfl)) (fun _ _ _ h => h) (Or.inl ⟨by rfl, ?_⟩) ?_ ?_
       rotate_left
       · intro w'; go_simp; with_reducible rfl
       rotate_left
       · simp only [Act.put, LsA, LsZ, LsS, i64_w, i32_w]; rfl
       refine pure_ (i := 21) (N := some 90) (v := undef) (a' := ?_) (bB 4194303) rfl rfl (any_of HT_.out (by kernel_rfl)) (fun _ _ _ h => h) (Or.inr ⟨by rfl, rfl⟩) ?_ ?_
       rotate_left
       · simp only [Act.put, LsA, LsZ, LsS, i64_w, i32_w]; rfl
       refine pure_ (i := 22) (N := some 91) (v := undef) (a' := ?_) (bB 8388607) rfl rfl (any_of HT_.out (by kernel_rfl)) (fun _ _ _ h => h) (Or.inr ⟨by rfl, rfl⟩) ?_ ?_
       rotate_left
       · simp only [Act.put, LsA, LsZ, LsS, i64_w, i32_w]; rfl
       refine pure_ (i := 23) (N := some 92) (v := undef) (a' := ?_) (bB 16777215) rfl rfl (any_of HT_.out (by kernel_rfl)) (fun _ _ _ h => h) (Or.inr ⟨by rfl, rfl⟩) ?_ ?_
       rotate_left
       · simp only [Act.put, LsA, LsZ, LsS, i64_w, i32_w]; rfl
       refine pure_ (i := 24) (N := some 93) (v := undef) (a' := ?_) (bB 33554431) rfl rfl (any_of HT_.out (by kernel_rfl)) (fun _ _ _ h => h) (Or.inr ⟨by rfl, rfl⟩) ?_ ?_
       rotate_left
       · simp only [Act.put, LsA, LsZ, LsS, i64_w, i32_w]; rfl
       refine pure_ (i := 25) (N := some 94) (v := undef) (a' := ?_) (bB 67108863) rfl rfl (any_of HT_.out (by kernel_rfl)) (fun _ _ _ h => h) (Or.inr ⟨by rfl, rfl⟩) ?_ ?_
       rotate_left
       · simp only [Act.put, LsA, LsZ, LsS, i64_w, i32_w]; rfl
       refine pure_ (i := 26) (N := some 95) (v := undef) (a' := ?_) (bB 134217727) rfl rfl (any_of HT_.out (by kernel_rfl)) (fun _ _ _ h => h) (Or.inr ⟨by rfl, rfl⟩) ?_ ?_
       rotate_left
       · simp only [Act.put, LsA, LsZ, LsS, i64_w, i32_w]; rfl
       refine pure_ (i := 27) (N := some 96) (v := undef) (a' := ?_) (bB 268435455) rfl rfl (any_of HT_.out (by kernel_rfl)) (fun _ _ _ h => h) (Or.inr ⟨by rfl, rfl⟩) ?_ ?_
       rotate_left
       · simp only [Act.put, LsA, LsZ, LsS, i64_w, i32_w]; rfl
       refine pure_ (i := 28) (N := some 97) (v := ?_) (a' := ?_) (bB 536870911) rfl rfl (any_of HT_.out (by kernel_rfl)) (fun _ _ _ h => h) (Or.inl ⟨by rfl, ?_⟩) ?_ ?_
       rotate_left
       · intro w'; go_simp; with_reducible rfl
       rotate_left
       · simp only [Act.put, LsA, LsZ, LsS, i64_w, i32_w]; rfl
       refine pure_ (i := 29) (N := some 98) (v := ?_) (a' := ?_) (bB 1073741823) rfl rfl (any_of HT_.out (by kernel_rfl)) (fun _ _ _ h => h) (Or.inl ⟨by rfl, ?_⟩) ?_ ?_
       rotate_left
       · intro w'; go_simp; with_reducible rfl
       rotate_left
       · simp only [Act.put, LsA, LsZ, LsS, i64_w, i32_w]; rfl
       refine pure_ (i := 30) (N := some 99) (v := ?_) (a' := ?_) (bB 2147483647) rfl rfl (any_of HT_.out (by kernel_rfl)) (fun _ _ _ h => h) (Or.inl ⟨by rfl, ?_⟩) ?_ ?_
       rotate_left
       · intro w'; go_simp; with_reducible rfl
       rotate_left
       · simp only [Act.put, LsA, LsZ, LsS, i64_w, i32_w]; rfl
       refine pure_ (i := 31) (N := some 100) (v := ?_) (a' := ?_) (bB 4294967295) rfl rfl (any_of HT_.out (by kernel_rfl)) (fun _ _ _ h => h) (Or.inl ⟨by rfl, ?_⟩) ?_ ?_
       rotate_left
       · intro w'; go_simp; with_reducible rfl
       rotate_left
       · simp only [Act.put, LsA, LsZ, LsS, i64_w, i32_w]; rfl
       refine pure_ (i := 32) (N := some 101) (v := ?_) (a' := ?_) (bB 8589934591) rfl rfl (any_of HT_.out (by kernel_rfl)) (fun _ _ _ h => h) (Or.inl ⟨by rfl, ?_⟩) ?_ ?_
       rotate_left
       · intro w'; go_simp; with_reducible rfl
       rotate_left
       · simp only [Act.put, LsA, LsZ, LsS, i64_w, i32_w]; rfl
       refine pure_ (i := 33) (N := some 102) (v := ?_) (a' := ?_) (bB 17179869183) rfl rfl (any_of HT_.out (by kernel_rfl)) (fun _ _ _ h => h) (Or.inl ⟨by rfl, ?_⟩) ?_ ?_
       rotate_left
       · intro w'; go_simp; with_reducible rfl
       rotate_left
       · simp only [Act.put, LsA, LsZ, LsS, i64_w, i32_w]; rfl
       refine pure_ (i := 34) (N := some 103) (v := ?_) (a' := ?_) (bB 34359738367) rfl rfl (any_of HT_.out (by kernel_rfl)) (fun _ _ _ h => h) (Or.inl ⟨by rfl, ?_⟩) ?_ ?_
       rotate_left
       · intro w'; go_simp; with_reducible rfl
       rotate_left
       · simp only [Act.put, LsA, LsZ, LsS, i64_w, i32_w]; rfl
       refine take_ (i := 35) (N := some 104) (v := ?_) (a' := ?_) (bB 68719476735) rfl rfl (take_ofW HT_.out HW_.out (by kernel_rfl)) (fun _ _ _ h => h) (Or.inl ⟨by rfl, ?_⟩) hHeld ?_ ?_
       rotate_left
       ·
        rintro w' hw
        have y1 := (hw.cell (World.block_lt_of_cell? wr _ hx1)).trans hx1; go_simp; with_reducible rfl
       rotate_left
       · simp only [Act.put, LsA, LsZ, LsS, i64_w, i32_w]; rfl
       refine pure_ (i := 36) (N := some 105) (v := ?_) (a' := ?_) (bB 137438953471) rfl rfl (any_of HT_.out (by kernel_rfl)) (fun _ _ _ h => h) (Or.inl ⟨by rfl, ?_⟩) ?_ ?_
       rotate_left
       · intro w'; go_simp; with_reducible rfl
       rotate_left
       · simp only [Act.put, LsA, LsZ, LsS, i64_w, i32_w]; rfl
       refine pure_ (i := 37) (N := some 106) (v := ?_) (a' := ?_) (bB 274877906943) rfl rfl (any_of HT_.out (by kernel_rfl)) (fun _ _ _ h => h) (Or.inl ⟨by rfl, ?_⟩) ?_ ?_
       rotate_left
       · intro w'; go_simp; with_reducible rfl
       rotate_left
       · simp only [Act.put, LsA, LsZ, LsS, i64_w, i32_w]; rfl
       refine pure_ (i := 38) (N := some 107) (v := ?_) (a' := ?_) (bB 549755813887) rfl rfl (any_of HT_.out (by kernel_rfl)) (fun _ _ _ h => h) (Or.inl ⟨by rfl, ?_⟩) ?_ ?_
       rotate_left
       · intro w'; go_simp; with_reducible rfl
       rotate_left
       · simp only [Act.put, LsA, LsZ, LsS, i64_w, i32_w]; rfl
       refine pure_ (i := 39) (N := some 108) (v := ?_) (a' := ?_) (bB 1099511627775) rfl rfl (any_of HT_.out (by kernel_rfl)) (fun _ _ _ h => h) (Or.inl ⟨by rfl, ?_⟩) ?_ ?_
       rotate_left
       · intro w'; go_simp; with_reducible rfl
       rotate_left
       · simp only [Act.put, LsA, LsZ, LsS, i64_w, i32_w]; rfl
       refine pure_ (i := 40) (N := some 109) (v := ?_) (a' := ?_) (bB 2199023255551) rfl rfl (any_of HT_.out (by kernel_rfl)) (fun _ _ _ h => h) (Or.inl ⟨by rfl, ?_⟩) ?_ ?_
       rotate_left
       · intro w'; go_simp; with_reducible rfl
       rotate_left
       · simp only [Act.put, LsA, LsZ, LsS, i64_w, i32_w]; rfl
       refine pure_ (i := 41) (N := some 110) (v := ?_) (a' := ?_) (bB 4398046511103) rfl rfl (any_of HT_.out (by kernel_rfl)) (fun _ _ _ h => h) (Or.inl ⟨by rfl, ?_⟩) ?_ ?_
       rotate_left
       · intro w'; go_simp; with_reducible rfl
       rotate_left
       · simp only [Act.put, LsA, LsZ, LsS, i64_w, i32_w]; rfl
       refine take_ (i := 42) (N := some 111) (v := ?_) (a' := ?_) (bB 8796093022207) rfl rfl (take_ofW HT_.out HW_.out (by kernel_rfl)) (fun _ _ _ h => h) (Or.inl ⟨by rfl, ?_⟩) hHeld ?_ ?_
       rotate_left
       ·
        rintro w' hw
        have y1 := (hw.cell (World.block_lt_of_cell? wr _ hx1)).trans hx1; go_simp; with_reducible rfl
       rotate_left
       · simp only [Act.put, LsA, LsZ, LsS, i64_w, i32_w]; rfl
       refine pure_ (i := 43) (N := some 112) (v := ?_) (a' := ?_) (bB 17592186044415) rfl rfl (any_of HT_.out (by kernel_rfl)) (fun _ _ _ h => h) (Or.inl ⟨by rfl, ?_⟩) ?_ ?_
       rotate_left
       · intro w'; go_simp; with_reducible rfl
       rotate_left
       · simp only [Act.put, LsA, LsZ, LsS, i64_w, i32_w]; rfl
       refine pure_ (i := 44) (N := some 113) (v := ?_) (a' := ?_) (bB 35184372088831) rfl rfl (any_of HT_.out (by kernel_rfl)) (fun _ _ _ h => h) (Or.inl ⟨by rfl, ?_⟩) ?_ ?_
       rotate_left
       · intro w'; go_simp; with_reducible rfl
       rotate_left
       · simp only [Act.put, LsA, LsZ, LsS, i64_w, i32_w]; rfl
       refine pure_ (i := 45) (N := some 114) (v := ?_) (a' := ?_) (bB 70368744177663) rfl rfl (any_of HT_.out (by kernel_rfl)) (fun _ _ _ h => h) (Or.inl ⟨by rfl, ?_⟩) ?_ ?_
       rotate_left
       · intro w'; go_simp; with_reducible rfl
       rotate_left
       · simp only [Act.put, LsA, LsZ, LsS, i64_w, i32_w]; rfl
       refine pure_ (i := 46) (N := some 115) (v := ?_) (a' := ?_) (bB 140737488355327) rfl rfl (any_of HT_.out (by kernel_rfl)) (fun _ _ _ h => h) (Or.inl ⟨by rfl, ?_⟩) ?_ ?_
       rotate_left
       · intro w'; go_simp; with_reducible rfl
       rotate_left
       · simp only [Act.put, LsA, LsZ, LsS, i64_w, i32_w]; rfl
       refine pure_ (i := 47) (N := some 116) (v := ?_) (a' := ?_) (bB 281474976710655) rfl rfl (any_of HT_.out (by kernel_rfl)) (fun _ _ _ h => h) (Or.inl ⟨by rfl, ?_⟩) ?_ ?_
       rotate_left
       · intro w'; go_simp; with_reducible rfl
       rotate_left
       · simp only [Act.put, LsA, LsZ, LsS, i64_w, i32_w]; rfl
       refine pure_ (i := 48) (N := some 117) (v := ?_) (a' := ?_) (bB 562949953421311) rfl rfl (any_of HT_.out (by kernel_rfl)) (fun _ _ _ h => h) (Or.inl ⟨by rfl, ?_⟩) ?_ ?_
       rotate_left
       · intro w'; go_simp; with_reducible rfl
       rotate_left
       · simp only [Act.put, LsA, LsZ, LsS, i64_w, i32_w]; rfl
       refine take_ (i := 49) (N := some 118) (v := ?_) (a' := ?_) (bB 1125899906842623) rfl rfl (take_ofW HT_.out HW_.out (by kernel_rfl)) (fun _ _ _ h => h) (Or.inl ⟨by rfl, ?_⟩) hHeld ?_ ?_
       rotate_left
       ·
        rintro w' hw
        have y9 := (blk_cell (blk_below HCW.out hw) 2).trans h2; go_simp; with_reducible rfl
       rotate_left
       · simp only [Act.put, LsA, LsZ, LsS, i64_w, i32_w]; rfl
       refine pure_ (i := 50) (N := some 119) (v := ?_) (a' := ?_) (bB 2251799813685247) rfl rfl (any_of HT_.out (by kernel_rfl)) (fun _ _ _ h => h) (Or.inl ⟨by rfl, ?_⟩) ?_ ?_
       rotate_left
       · intro w'; go_simp; with_reducible rfl
       rotate_left
       · simp only [Act.put, LsA, LsZ, LsS, i64_w, i32_w]; rfl
       refine pure_ (i := 51) (N := some 120) (v := ?_) (a' := ?_) (bB 4503599627370495) rfl rfl (any_of HT_.out (by kernel_rfl)) (fun _ _ _ h => h) (Or.inl ⟨by rfl, ?_⟩) ?_ ?_
       rotate_left
       · intro w'; go_simp; with_reducible rfl
       rotate_left
       · simp only [Act.put, LsA, LsZ, LsS, i64_w, i32_w]; rfl
       refine pure_ (i := 52) (N := some 121) (v := ?_) (a' := ?_) (bB 9007199254740991) rfl rfl (any_of HT_.out (by kernel_rfl)) (fun _ _ _ h => h) (Or.inl ⟨by rfl, ?_⟩) ?_ ?_
       rotate_left
       · intro w'; go_simp; with_reducible rfl
       rotate_left
       · simp only [Act.put, LsA, LsZ, LsS, i64_w, i32_w]; rfl
       refine pure_ (i := 53) (N := some 122) (v := ?_) (a' := ?_) (bB 18014398509481983) rfl rfl (any_of HT_.out (by kernel_rfl)) (fun _ _ _ h => h) (Or.inl ⟨by rfl, ?_⟩) ?_ ?_
       rotate_left
       · intro w'; go_simp; with_reducible rfl
       rotate_left
       · simp only [Act.put, LsA, LsZ, LsS, i64_w, i32_w]; rfl
       refine take_ (i := 54) (N := some 123) (v := ?_) (a' := ?_) (bB 36028797018963967) rfl rfl (take_ofW HT_.out HW_.out (by kernel_rfl)) (fun _ _ _ h => h) (Or.inl ⟨by rfl, ?_⟩) hHeld ?_ ?_
       rotate_left
       ·
        rintro w' hw
        have y3 := (hw.cell (World.block_lt_of_cell? wr _ hx3)).trans hx3; go_simp; with_reducible rfl
       rotate_left
       · simp only [Act.put, LsA, LsZ, LsS, i64_w, i32_w]; rfl
       refine one_ (i := 55) (N := some 124) (bB 72057594037927935) rfl rfl (one_of HT_.out (by kernel_rfl)) (by decide) (fun K hK => ?_)
       refine goes_ Tryz.func29 (by kernel_rfl) rfl #[.slice B ts.length cb, .slice A3 sc.length c3] (by rfl) rfl rfl (by (try simp only [List.map_toArray, List.map_cons, List.map_nil]); first | done | rfl) ?_
       refine (belfryref04_Fits.calls k B cb ts A3 c3 sc false _ (Kd.C_below (Kd.C_below HA.out HB.out) hHeld) hac (Kd.C_below HG3.out hHeld) l3 HFI.out).mono ?_
       rintro e w3 ⟨rfl, hd2⟩
       refine ⟨_, rfl, ?_⟩
       refine hK.out _ _ (below_step hHeld hd2) (fun hHeld => ?_)
       clear hK K hd2
       refine norm_ (a' := ?_) ?_ ?_
       rotate_left
       ·
        show Act.put _ (some 124) _ = _
        simp only [Act.put, LsA, LsZ, LsS, i64_w, i32_w]; rfl
       refine pure_ (i := 56) (N := some 125) (v := ?_) (a' := ?_) (bB 144115188075855871) rfl rfl (any_of HT_.out (by kernel_rfl)) (fun _ _ _ h => h) (Or.inl ⟨by rfl, ?_⟩) ?_ ?_
       rotate_left
       · intro w'; go_simp; with_reducible rfl
       rotate_left
       · simp only [Act.put, LsA, LsZ, LsS, i64_w, i32_w]; rfl
       refine done_ (done_of HT_.out (by kernel_rfl)) ?_
       go_wp2
       go_meet
       case rel => exact ⟨rfl, ⟨hHeld⟩⟩
      replace cq := Bool.eq_false_iff.2 cq
      refine start_ (n := 57) (S := fun w' => Below wr.heap.size wr w') (ds := []) (bB 0) (by kernel_rfl) rfl rfl (below_drew1 (Below.refl _ _)) (fun hHeld => ?_)
      refine with_tabW belfrylaw11_PolicyDenies.tab12 belfrylaw11_PolicyDenies.bits12 (fun HT_ HW_ => ?_)
      generalize wr.drew = W0 at hHeld ⊢
      refine pure_ (i := 0) (N := some 69) (v := ?_) (a' := ?_) (bB 1) rfl rfl (any_of HT_.out (by kernel_rfl)) (fun _ _ _ h => h) (Or.inl ⟨by rfl, ?_⟩) ?_ ?_
      rotate_left
      · intro w'; go_simp; with_reducible rfl
      rotate_left
      · simp only [Act.put, LsA, LsZ, LsS, i64_w, i32_w]; rfl
      refine pure_ (i := 1) (N := some 70) (v := ?_) (a' := ?_) (bB 3) rfl rfl (any_of HT_.out (by kernel_rfl)) (fun _ _ _ h => h) (Or.inl ⟨by rfl, ?_⟩) ?_ ?_
      rotate_left
      · intro w'; go_simp; with_reducible rfl
      rotate_left
      · simp only [Act.put, LsA, LsZ, LsS, i64_w, i32_w]; rfl
      refine pure_ (i := 2) (N := some 71) (v := ?_) (a' := ?_) (bB 7) rfl rfl (any_of HT_.out (by kernel_rfl)) (fun _ _ _ h => h) (Or.inl ⟨by rfl, ?_⟩) ?_ ?_
      rotate_left
      · intro w'; go_simp; with_reducible rfl
      rotate_left
      · simp only [Act.put, LsA, LsZ, LsS, i64_w, i32_w]; rfl
      refine take_ (i := 3) (N := some 72) (v := ?_) (a' := ?_) (bB 15) rfl rfl (take_ofW HT_.out HW_.out (by kernel_rfl)) (fun _ _ _ h => h) (Or.inl ⟨by rfl, ?_⟩) hHeld ?_ ?_
      rotate_left
      ·
       rintro w' hw
       have y0 := (hw.cell (World.block_lt_of_cell? wr _ hx0)).trans hx0; have y1 := (hw.cell (World.block_lt_of_cell? wr _ hx1)).trans hx1; have y2 := (hw.cell (World.block_lt_of_cell? wr _ hx2)).trans hx2; have y3 := (hw.cell (World.block_lt_of_cell? wr _ hx3)).trans hx3; have y4 := (hw.cell (World.block_lt_of_cell? wr _ hx4)).trans hx4; go_simp; with_reducible rfl
      rotate_left
      · simp only [Act.put, LsA, LsZ, LsS, i64_w, i32_w]; rfl
      refine one_ (i := 4) (N := some 73) (bB 31) rfl rfl (one_of HT_.out (by kernel_rfl)) (by decide) (fun K hK => ?_)
      refine goes_ Tryz.func23 (by kernel_rfl) rfl #[.agg #[.bool true, .int .i64 kx, .string tn, .slice A3 sc.length c3, .slice A4 hd.length c4]] (by rfl) rfl rfl (by (try simp only [List.map_toArray, List.map_cons, List.map_nil]); first | done | rfl) ?_
      refine (belfryref11_Right.calls k true kx tn A3 c3 sc A4 c4 hd 0 _ (Kd.C_below HG3.out hHeld) l3 (Kd.C_below HG4.out hHeld) l4 HRI.out).mono ?_
      rintro e w2 ⟨rfl, hd2⟩
      refine ⟨_, rfl, ?_⟩
      refine hK.out _ _ (below_step hHeld hd2) (fun hHeld => ?_)
      clear hK K hd2
      refine norm_ (a' := ?_) ?_ ?_
      rotate_left
      ·
       show Act.put _ (some 73) _ = _
       simp only [Act.put, LsA, LsZ, LsS, i64_w, i32_w]; rfl
      refine pure_ (i := 5) (N := some 74) (v := ?_) (a' := ?_) (bB 63) rfl rfl (any_of HT_.out (by kernel_rfl)) (fun _ _ _ h => h) (Or.inl ⟨by rfl, ?_⟩) ?_ ?_
      rotate_left
      · intro w'; go_simp; with_reducible rfl
      rotate_left
      · simp only [Act.put, LsA, LsZ, LsS, i64_w, i32_w]; rfl
      refine pure_ (i := 6) (N := some 75) (v := ?_) (a' := ?_) (bB 127) rfl rfl (any_of HT_.out (by kernel_rfl)) (fun _ _ _ h => h) (Or.inl ⟨by rfl, ?_⟩) ?_ ?_
      rotate_left
      · intro w'; go_simp; with_reducible rfl
      rotate_left
      · simp only [Act.put, LsA, LsZ, LsS, i64_w, i32_w]; rfl
      refine pure_ (i := 7) (N := some 76) (v := ?_) (a' := ?_) (bB 255) rfl rfl (any_of HT_.out (by kernel_rfl)) (fun _ _ _ h => h) (Or.inl ⟨by rfl, ?_⟩) ?_ ?_
      rotate_left
      · intro w'; go_simp; with_reducible rfl
      rotate_left
      · simp only [Act.put, LsA, LsZ, LsS, i64_w, i32_w]; rfl
      refine pure_ (i := 8) (N := some 77) (v := ?_) (a' := ?_) (bB 511) rfl rfl (any_of HT_.out (by kernel_rfl)) (fun _ _ _ h => h) (Or.inl ⟨by rfl, ?_⟩) ?_ ?_
      rotate_left
      · intro w'; go_simp; with_reducible rfl
      rotate_left
      · simp only [Act.put, LsA, LsZ, LsS, i64_w, i32_w]; rfl
      refine pure_ (i := 9) (N := some 78) (v := ?_) (a' := ?_) (bB 1023) rfl rfl (any_of HT_.out (by kernel_rfl)) (fun _ _ _ h => h) (Or.inl ⟨by rfl, ?_⟩) ?_ ?_
      rotate_left
      · intro w'; go_simp; with_reducible rfl
      rotate_left
      · simp only [Act.put, LsA, LsZ, LsS, i64_w, i32_w]; rfl
      refine pure_ (i := 10) (N := some 79) (v := ?_) (a' := ?_) (bB 2047) rfl rfl (any_of HT_.out (by kernel_rfl)) (fun _ _ _ h => h) (Or.inl ⟨by rfl, ?_⟩) ?_ ?_
      rotate_left
      · intro w'; go_simp; with_reducible rfl
      rotate_left
      · simp only [Act.put, LsA, LsZ, LsS, i64_w, i32_w]; rfl
      refine take_ (i := 11) (N := some 80) (v := ?_) (a' := ?_) (bB 4095) rfl rfl (take_ofW HT_.out HW_.out (by kernel_rfl)) (fun _ _ _ h => h) (Or.inl ⟨by rfl, ?_⟩) hHeld ?_ ?_
      rotate_left
      ·
       rintro w' hw
       have y0 := (hw.cell (World.block_lt_of_cell? wr _ hx0)).trans hx0; go_simp; with_reducible rfl
      rotate_left
      · simp only [Act.put, LsA, LsZ, LsS, i64_w, i32_w]; rfl
      refine pure_ (i := 12) (N := some 81) (v := ?_) (a' := ?_) (bB 8191) rfl rfl (any_of HT_.out (by kernel_rfl)) (fun _ _ _ h => h) (Or.inl ⟨by rfl, ?_⟩) ?_ ?_
      rotate_left
      · intro w'; go_simp; with_reducible rfl
      rotate_left
      · simp only [Act.put, LsA, LsZ, LsS, i64_w, i32_w]; rfl
      refine pure_ (i := 13) (N := some 82) (v := ?_) (a' := ?_) (bB 16383) rfl rfl (any_of HT_.out (by kernel_rfl)) (fun _ _ _ h => h) (Or.inl ⟨by rfl, ?_⟩) ?_ ?_
      rotate_left
      · intro w'; go_simp; with_reducible rfl
      rotate_left
      · simp only [Act.put, LsA, LsZ, LsS, i64_w, i32_w]; rfl
      refine pure_ (i := 14) (N := some 83) (v := ?_) (a' := ?_) (bB 32767) rfl rfl (any_of HT_.out (by kernel_rfl)) (fun _ _ _ h => h) (Or.inl ⟨by rfl, ?_⟩) ?_ ?_
      rotate_left
      · intro w'; go_simp; with_reducible rfl
      rotate_left
      · simp only [Act.put, LsA, LsZ, LsS, i64_w, i32_w]; rfl
      refine pure_ (i := 15) (N := some 84) (v := ?_) (a' := ?_) (bB 65535) rfl rfl (any_of HT_.out (by kernel_rfl)) (fun _ _ _ h => h) (Or.inl ⟨by rfl, ?_⟩) ?_ ?_
      rotate_left
      · intro w'; go_simp; with_reducible rfl
      rotate_left
      · simp only [Act.put, LsA, LsZ, LsS, i64_w, i32_w]; rfl
      refine pure_ (i := 16) (N := some 85) (v := ?_) (a' := ?_) (bB 131071) rfl rfl (any_of HT_.out (by kernel_rfl)) (fun _ _ _ h => h) (Or.inl ⟨by rfl, ?_⟩) ?_ ?_
      rotate_left
      · intro w'; go_simp; with_reducible rfl
      rotate_left
      · simp only [Act.put, LsA, LsZ, LsS, i64_w, i32_w]; rfl
      refine pure_ (i := 17) (N := some 86) (v := ?_) (a' := ?_) (bB 262143) rfl rfl (any_of HT_.out (by kernel_rfl)) (fun _ _ _ h => h) (Or.inl ⟨by rfl, ?_⟩) ?_ ?_
      rotate_left
      · intro w'; go_simp; with_reducible rfl
      rotate_left
      · simp only [Act.put, LsA, LsZ, LsS, i64_w, i32_w]; rfl
      refine take_ (i := 18) (N := some 87) (v := ?_) (a' := ?_) (bB 524287) rfl rfl (take_ofW HT_.out HW_.out (by kernel_rfl)) (fun _ _ _ h => h) (Or.inl ⟨by rfl, ?_⟩) hHeld ?_ ?_
      rotate_left
      ·
       rintro w' hw
       have y2 := (hw.cell (World.block_lt_of_cell? wr _ hx2)).trans hx2; go_simp; with_reducible rfl
      rotate_left
      · simp only [Act.put, LsA, LsZ, LsS, i64_w, i32_w]; rfl
      refine pure_ (i := 19) (N := some 88) (v := ?_) (a' := ?_) (bB 1048575) rfl rfl (any_of HT_.out (by kernel_rfl)) (fun _ _ _ h => h) (Or.inl ⟨by rfl, ?_⟩) ?_ ?_
      rotate_left
      · intro w'; go_simp; with_reducible rfl
      rotate_left
      · simp only [Act.put, LsA, LsZ, LsS, i64_w, i32_w]; rfl
      refine pure_ (i := 20) (N := some 89) (v := ?_) (a' := ?_) (bB 2097151) rfl rfl (any_of HT_.out (by kernel_rfl)) (fun _ _ _ h => h) (Or.inl ⟨by rfl, ?_⟩) ?_ ?_
      rotate_left
      · intro w'; go_simp; with_reducible rfl
      rotate_left
      · simp only [Act.put, LsA, LsZ, LsS, i64_w, i32_w]; rfl
      refine pure_ (i := 21) (N := some 90) (v := undef) (a' := ?_) (bB 4194303) rfl rfl (any_of HT_.out (by kernel_rfl)) (fun _ _ _ h => h) (Or.inr ⟨by rfl, rfl⟩) ?_ ?_
      rotate_left
      · simp only [Act.put, LsA, LsZ, LsS, i64_w, i32_w]; rfl
      refine pure_ (i := 22) (N := some 91) (v := undef) (a' := ?_) (bB 8388607) rfl rfl (any_of HT_.out (by kernel_rfl)) (fun _ _ _ h => h) (Or.inr ⟨by rfl, rfl⟩) ?_ ?_
      rotate_left
      · simp only [Act.put, LsA, LsZ, LsS, i64_w, i32_w]; rfl
      refine pure_ (i := 23) (N := some 92) (v := undef) (a' := ?_) (bB 16777215) rfl rfl (any_of HT_.out (by kernel_rfl)) (fun _ _ _ h => h) (Or.inr ⟨by rfl, rfl⟩) ?_ ?_
      rotate_left
      · simp only [Act.put, LsA, LsZ, LsS, i64_w, i32_w]; rfl
      refine pure_ (i := 24) (N := some 93) (v := undef) (a' := ?_) (bB 33554431) rfl rfl (any_of HT_.out (by kernel_rfl)) (fun _ _ _ h => h) (Or.inr ⟨by rfl, rfl⟩) ?_ ?_
      rotate_left
      · simp only [Act.put, LsA, LsZ, LsS, i64_w, i32_w]; rfl
      refine pure_ (i := 25) (N := some 94) (v := undef) (a' := ?_) (bB 67108863) rfl rfl (any_of HT_.out (by kernel_rfl)) (fun _ _ _ h => h) (Or.inr ⟨by rfl, rfl⟩) ?_ ?_
      rotate_left
      · simp only [Act.put, LsA, LsZ, LsS, i64_w, i32_w]; rfl
      refine pure_ (i := 26) (N := some 95) (v := undef) (a' := ?_) (bB 134217727) rfl rfl (any_of HT_.out (by kernel_rfl)) (fun _ _ _ h => h) (Or.inr ⟨by rfl, rfl⟩) ?_ ?_
      rotate_left
      · simp only [Act.put, LsA, LsZ, LsS, i64_w, i32_w]; rfl
      refine pure_ (i := 27) (N := some 96) (v := undef) (a' := ?_) (bB 268435455) rfl rfl (any_of HT_.out (by kernel_rfl)) (fun _ _ _ h => h) (Or.inr ⟨by rfl, rfl⟩) ?_ ?_
      rotate_left
      · simp only [Act.put, LsA, LsZ, LsS, i64_w, i32_w]; rfl
      refine pure_ (i := 28) (N := some 97) (v := ?_) (a' := ?_) (bB 536870911) rfl rfl (any_of HT_.out (by kernel_rfl)) (fun _ _ _ h => h) (Or.inl ⟨by rfl, ?_⟩) ?_ ?_
      rotate_left
      · intro w'; go_simp; with_reducible rfl
      rotate_left
      · simp only [Act.put, LsA, LsZ, LsS, i64_w, i32_w]; rfl
      refine pure_ (i := 29) (N := some 98) (v := ?_) (a' := ?_) (bB 1073741823) rfl rfl (any_of HT_.out (by kernel_rfl)) (fun _ _ _ h => h) (Or.inl ⟨by rfl, ?_⟩) ?_ ?_
      rotate_left
      · intro w'; go_simp; with_reducible rfl
      rotate_left
      · simp only [Act.put, LsA, LsZ, LsS, i64_w, i32_w]; rfl
      refine pure_ (i := 30) (N := some 99) (v := ?_) (a' := ?_) (bB 2147483647) rfl rfl (any_of HT_.out (by kernel_rfl)) (fun _ _ _ h => h) (Or.inl ⟨by rfl, ?_⟩) ?_ ?_
      rotate_left
      · intro w'; go_simp; with_reducible rfl
      rotate_left
      · simp only [Act.put, LsA, LsZ, LsS, i64_w, i32_w]; rfl
      refine pure_ (i := 31) (N := some 100) (v := ?_) (a' := ?_) (bB 4294967295) rfl rfl (any_of HT_.out (by kernel_rfl)) (fun _ _ _ h => h) (Or.inl ⟨by rfl, ?_⟩) ?_ ?_
      rotate_left
      · intro w'; go_simp; with_reducible rfl
      rotate_left
      · simp only [Act.put, LsA, LsZ, LsS, i64_w, i32_w]; rfl
      refine pure_ (i := 32) (N := some 101) (v := ?_) (a' := ?_) (bB 8589934591) rfl rfl (any_of HT_.out (by kernel_rfl)) (fun _ _ _ h => h) (Or.inl ⟨by rfl, ?_⟩) ?_ ?_
      rotate_left
      · intro w'; go_simp; with_reducible rfl
      rotate_left
      · simp only [Act.put, LsA, LsZ, LsS, i64_w, i32_w]; rfl
      refine pure_ (i := 33) (N := some 102) (v := ?_) (a' := ?_) (bB 17179869183) rfl rfl (any_of HT_.out (by kernel_rfl)) (fun _ _ _ h => h) (Or.inl ⟨by rfl, ?_⟩) ?_ ?_
      rotate_left
      · intro w'; go_simp; with_reducible rfl
      rotate_left
      · simp only [Act.put, LsA, LsZ, LsS, i64_w, i32_w]; rfl
      refine pure_ (i := 34) (N := some 103) (v := ?_) (a' := ?_) (bB 34359738367) rfl rfl (any_of HT_.out (by kernel_rfl)) (fun _ _ _ h => h) (Or.inl ⟨by rfl, ?_⟩) ?_ ?_
      rotate_left
      · intro w'; go_simp; with_reducible rfl
      rotate_left
      · simp only [Act.put, LsA, LsZ, LsS, i64_w, i32_w]; rfl
      refine take_ (i := 35) (N := some 104) (v := ?_) (a' := ?_) (bB 68719476735) rfl rfl (take_ofW HT_.out HW_.out (by kernel_rfl)) (fun _ _ _ h => h) (Or.inl ⟨by rfl, ?_⟩) hHeld ?_ ?_
      rotate_left
      ·
       rintro w' hw
       have y1 := (hw.cell (World.block_lt_of_cell? wr _ hx1)).trans hx1; go_simp; with_reducible rfl
      rotate_left
      · simp only [Act.put, LsA, LsZ, LsS, i64_w, i32_w]; rfl
      refine pure_ (i := 36) (N := some 105) (v := ?_) (a' := ?_) (bB 137438953471) rfl rfl (any_of HT_.out (by kernel_rfl)) (fun _ _ _ h => h) (Or.inl ⟨by rfl, ?_⟩) ?_ ?_
      rotate_left
      · intro w'; go_simp; with_reducible rfl
      rotate_left
      · simp only [Act.put, LsA, LsZ, LsS, i64_w, i32_w]; rfl
      refine pure_ (i := 37) (N := some 106) (v := ?_) (a' := ?_) (bB 274877906943) rfl rfl (any_of HT_.out (by kernel_rfl)) (fun _ _ _ h => h) (Or.inl ⟨by rfl, ?_⟩) ?_ ?_
      rotate_left
      · intro w'; go_simp; with_reducible rfl
      rotate_left
      · simp only [Act.put, LsA, LsZ, LsS, i64_w, i32_w]; rfl
      refine pure_ (i := 38) (N := some 107) (v := ?_) (a' := ?_) (bB 549755813887) rfl rfl (any_of HT_.out (by kernel_rfl)) (fun _ _ _ h => h) (Or.inl ⟨by rfl, ?_⟩) ?_ ?_
      rotate_left
      · intro w'; go_simp; with_reducible rfl
      rotate_left
      · simp only [Act.put, LsA, LsZ, LsS, i64_w, i32_w]; rfl
      refine pure_ (i := 39) (N := some 108) (v := ?_) (a' := ?_) (bB 1099511627775) rfl rfl (any_of HT_.out (by kernel_rfl)) (fun _ _ _ h => h) (Or.inl ⟨by rfl, ?_⟩) ?_ ?_
      rotate_left
      · intro w'; go_simp; with_reducible rfl
      rotate_left
      · simp only [Act.put, LsA, LsZ, LsS, i64_w, i32_w]; rfl
      refine pure_ (i := 40) (N := some 109) (v := ?_) (a' := ?_) (bB 2199023255551) rfl rfl (any_of HT_.out (by kernel_rfl)) (fun _ _ _ h => h) (Or.inl ⟨by rfl, ?_⟩) ?_ ?_
      rotate_left
      · intro w'; go_simp; with_reducible rfl
      rotate_left
      · simp only [Act.put, LsA, LsZ, LsS, i64_w, i32_w]; rfl
      refine pure_ (i := 41) (N := some 110) (v := ?_) (a' := ?_) (bB 4398046511103) rfl rfl (any_of HT_.out (by kernel_rfl)) (fun _ _ _ h => h) (Or.inl ⟨by rfl, ?_⟩) ?_ ?_
      rotate_left
      · intro w'; go_simp; with_reducible rfl
      rotate_left
      · simp only [Act.put, LsA, LsZ, LsS, i64_w, i32_w]; rfl
      refine take_ (i := 42) (N := some 111) (v := ?_) (a' := ?_) (bB 8796093022207) rfl rfl (take_ofW HT_.out HW_.out (by kernel_rfl)) (fun _ _ _ h => h) (Or.inl ⟨by rfl, ?_⟩) hHeld ?_ ?_
      rotate_left
      ·
       rintro w' hw
       have y1 := (hw.cell (World.block_lt_of_cell? wr _ hx1)).trans hx1; go_simp; with_reducible rfl
      rotate_left
      · simp only [Act.put, LsA, LsZ, LsS, i64_w, i32_w]; rfl
      refine pure_ (i := 43) (N := some 112) (v := ?_) (a' := ?_) (bB 17592186044415) rfl rfl (any_of HT_.out (by kernel_rfl)) (fun _ _ _ h => h) (Or.inl ⟨by rfl, ?_⟩) ?_ ?_
      rotate_left
      · intro w'; go_simp; with_reducible rfl
      rotate_left
      · simp only [Act.put, LsA, LsZ, LsS, i64_w, i32_w]; rfl
      refine pure_ (i := 44) (N := some 113) (v := ?_) (a' := ?_) (bB 35184372088831) rfl rfl (any_of HT_.out (by kernel_rfl)) (fun _ _ _ h => h) (Or.inl ⟨by rfl, ?_⟩) ?_ ?_
      rotate_left
      · intro w'; go_simp; with_reducible rfl
      rotate_left
      · simp only [Act.put, LsA, LsZ, LsS, i64_w, i32_w]; rfl
      refine pure_ (i := 45) (N := some 114) (v := ?_) (a' := ?_) (bB 70368744177663) rfl rfl (any_of HT_.out (by kernel_rfl)) (fun _ _ _ h => h) (Or.inl ⟨by rfl, ?_⟩) ?_ ?_
      rotate_left
      · intro w'; go_simp; with_reducible rfl
      rotate_left
      · simp only [Act.put, LsA, LsZ, LsS, i64_w, i32_w]; rfl
      refine pure_ (i := 46) (N := some 115) (v := ?_) (a' := ?_) (bB 140737488355327) rfl rfl (any_of HT_.out (by kernel_rfl)) (fun _ _ _ h => h) (Or.inl ⟨by rfl, ?_⟩) ?_ ?_
      rotate_left
      · intro w'; go_simp; with_reducible rfl
      rotate_left
      · simp only [Act.put, LsA, LsZ, LsS, i64_w, i32_w]; rfl
      refine pure_ (i := 47) (N := some 116) (v := ?_) (a' := ?_) (bB 281474976710655) rfl rfl (any_of HT_.out (by kernel_rfl)) (fun _ _ _ h => h) (Or.inl ⟨by rfl, ?_⟩) ?_ ?_
      rotate_left
      · intro w'; go_simp; with_reducible rfl
      rotate_left
      · simp only [Act.put, LsA, LsZ, LsS, i64_w, i32_w]; rfl
      refine pure_ (i := 48) (N := some 117) (v := undef) (a' := ?_) (bB 562949953421311) rfl rfl (any_of HT_.out (by kernel_rfl)) (fun _ _ _ h => h) (Or.inr ⟨by rfl, rfl⟩) ?_ ?_
      rotate_left
      · simp only [Act.put, LsA, LsZ, LsS, i64_w, i32_w]; rfl
      refine pure_ (i := 49) (N := some 118) (v := undef) (a' := ?_) (bB 1125899906842623) rfl rfl (any_of HT_.out (by kernel_rfl)) (fun _ _ _ h => h) (Or.inr ⟨by rfl, rfl⟩) ?_ ?_
      rotate_left
      · simp only [Act.put, LsA, LsZ, LsS, i64_w, i32_w]; rfl
      refine pure_ (i := 50) (N := some 119) (v := undef) (a' := ?_) (bB 2251799813685247) rfl rfl (any_of HT_.out (by kernel_rfl)) (fun _ _ _ h => h) (Or.inr ⟨by rfl, rfl⟩) ?_ ?_
      rotate_left
      · simp only [Act.put, LsA, LsZ, LsS, i64_w, i32_w]; rfl
      refine pure_ (i := 51) (N := some 120) (v := undef) (a' := ?_) (bB 4503599627370495) rfl rfl (any_of HT_.out (by kernel_rfl)) (fun _ _ _ h => h) (Or.inr ⟨by rfl, rfl⟩) ?_ ?_
      rotate_left
      · simp only [Act.put, LsA, LsZ, LsS, i64_w, i32_w]; rfl
      refine pure_ (i := 52) (N := some 121) (v := undef) (a' := ?_) (bB 9007199254740991) rfl rfl (any_of HT_.out (by kernel_rfl)) (fun _ _ _ h => h) (Or.inr ⟨by rfl, rfl⟩) ?_ ?_
      rotate_left
      · simp only [Act.put, LsA, LsZ, LsS, i64_w, i32_w]; rfl
      refine pure_ (i := 53) (N := some 122) (v := undef) (a' := ?_) (bB 18014398509481983) rfl rfl (any_of HT_.out (by kernel_rfl)) (fun _ _ _ h => h) (Or.inr ⟨by rfl, rfl⟩) ?_ ?_
      rotate_left
      · simp only [Act.put, LsA, LsZ, LsS, i64_w, i32_w]; rfl
      refine pure_ (i := 54) (N := some 123) (v := undef) (a' := ?_) (bB 36028797018963967) rfl rfl (any_of HT_.out (by kernel_rfl)) (fun _ _ _ h => h) (Or.inr ⟨by rfl, rfl⟩) ?_ ?_
      rotate_left
      · simp only [Act.put, LsA, LsZ, LsS, i64_w, i32_w]; rfl
      refine pure_ (i := 55) (N := some 124) (v := undef) (a' := ?_) (bB 72057594037927935) rfl rfl (any_of HT_.out (by kernel_rfl)) (fun _ _ _ h => h) (Or.inr ⟨by rfl, rfl⟩) ?_ ?_
      rotate_left
      · simp only [Act.put, LsA, LsZ, LsS, i64_w, i32_w]; rfl
      refine pure_ (i := 56) (N := some 125) (v := ?_) (a' := ?_) (bB 144115188075855871) rfl rfl (any_of HT_.out (by kernel_rfl)) (fun _ _ _ h => h) (Or.inl ⟨by rfl, ?_⟩) ?_ ?_
      rotate_left
      · intro w'; go_simp; with_reducible rfl
      rotate_left
      · simp only [Act.put, LsA, LsZ, LsS, i64_w, i32_w]; rfl
      refine done_ (done_of HT_.out (by kernel_rfl)) ?_
      go_wp2
      go_meet
      case rel => exact ⟨rfl, ⟨hHeld⟩⟩
     replace cs1 := Bool.eq_false_iff.2 cs1
     by_cases ct : (tn.toList == v.toList) = true
     case pos =>
      have cst := Or.inr (a := (tn.toList == ([42] : List UInt8)) = true) ct; by_cases ck : (kx == 0) = true
      case pos =>
       have hb0 : bf = false := Bool.eq_false_iff.2 (fun hh => hno ⟨rfl, rfl, cst, .inl ck, hh⟩)
       subst hb0
       refine start_ (n := 57) (S := fun w' => Below wr.heap.size wr w') (ds := []) (bB 0) (by kernel_rfl) rfl rfl (below_drew1 (Below.refl _ _)) (fun hHeld => ?_)
       refine with_tabW belfrylaw11_PolicyDenies.tab12 belfrylaw11_PolicyDenies.bits12 (fun HT_ HW_ => ?_)
       generalize wr.drew = W0 at hHeld ⊢
       refine pure_ (i := 0) (N := some 69) (v := ?_) (a' := ?_) (bB 1) rfl rfl (any_of HT_.out (by kernel_rfl)) (fun _ _ _ h => h) (Or.inl ⟨by rfl, ?_⟩) ?_ ?_
       rotate_left
       · intro w'; go_simp; with_reducible rfl
       rotate_left
       · simp only [Act.put, LsA, LsZ, LsS, i64_w, i32_w]; rfl
       refine pure_ (i := 1) (N := some 70) (v := ?_) (a' := ?_) (bB 3) rfl rfl (any_of HT_.out (by kernel_rfl)) (fun _ _ _ h => h) (Or.inl ⟨by rfl, ?_⟩) ?_ ?_
       rotate_left
       · intro w'; go_simp; with_reducible rfl
       rotate_left
       · simp only [Act.put, LsA, LsZ, LsS, i64_w, i32_w]; rfl
       refine pure_ (i := 2) (N := some 71) (v := ?_) (a' := ?_) (bB 7) rfl rfl (any_of HT_.out (by kernel_rfl)) (fun _ _ _ h => h) (Or.inl ⟨by rfl, ?_⟩) ?_ ?_
       rotate_left
       · intro w'; go_simp; with_reducible rfl
       rotate_left
       · simp only [Act.put, LsA, LsZ, LsS, i64_w, i32_w]; rfl
       refine take_ (i := 3) (N := some 72) (v := ?_) (a' := ?_) (bB 15) rfl rfl (take_ofW HT_.out HW_.out (by kernel_rfl)) (fun _ _ _ h => h) (Or.inl ⟨by rfl, ?_⟩) hHeld ?_ ?_
       rotate_left
       ·
        rintro w' hw
        have y0 := (hw.cell (World.block_lt_of_cell? wr _ hx0)).trans hx0; have y1 := (hw.cell (World.block_lt_of_cell? wr _ hx1)).trans hx1; have y2 := (hw.cell (World.block_lt_of_cell? wr _ hx2)).trans hx2; have y3 := (hw.cell (World.block_lt_of_cell? wr _ hx3)).trans hx3; have y4 := (hw.cell (World.block_lt_of_cell? wr _ hx4)).trans hx4; go_simp; with_reducible rfl
       rotate_left
       · simp only [Act.put, LsA, LsZ, LsS, i64_w, i32_w]; rfl
       refine one_ (i := 4) (N := some 73) (bB 31) rfl rfl (one_of HT_.out (by kernel_rfl)) (by decide) (fun K hK => ?_)
       refine goes_ Tryz.func23 (by kernel_rfl) rfl #[.agg #[.bool true, .int .i64 kx, .string tn, .slice A3 sc.length c3, .slice A4 hd.length c4]] (by rfl) rfl rfl (by (try simp only [List.map_toArray, List.map_cons, List.map_nil]); first | done | rfl) ?_
       refine (belfryref11_Right.calls k true kx tn A3 c3 sc A4 c4 hd 0 _ (Kd.C_below HG3.out hHeld) l3 (Kd.C_below HG4.out hHeld) l4 HRI.out).mono ?_
       rintro e w2 ⟨rfl, hd2⟩
       refine ⟨_, rfl, ?_⟩
       refine hK.out _ _ (below_step hHeld hd2) (fun hHeld => ?_)
       clear hK K hd2
       refine norm_ (a' := ?_) ?_ ?_
       rotate_left
       ·
        show Act.put _ (some 73) _ = _
        simp only [Act.put, LsA, LsZ, LsS, i64_w, i32_w]; rfl
       refine pure_ (i := 5) (N := some 74) (v := ?_) (a' := ?_) (bB 63) rfl rfl (any_of HT_.out (by kernel_rfl)) (fun _ _ _ h => h) (Or.inl ⟨by rfl, ?_⟩) ?_ ?_
       rotate_left
       · intro w'; go_simp; with_reducible rfl
       rotate_left
       · simp only [Act.put, LsA, LsZ, LsS, i64_w, i32_w]; rfl
       refine pure_ (i := 6) (N := some 75) (v := ?_) (a' := ?_) (bB 127) rfl rfl (any_of HT_.out (by kernel_rfl)) (fun _ _ _ h => h) (Or.inl ⟨by rfl, ?_⟩) ?_ ?_
       rotate_left
       · intro w'; go_simp; with_reducible rfl
       rotate_left
       · simp only [Act.put, LsA, LsZ, LsS, i64_w, i32_w]; rfl
       refine pure_ (i := 7) (N := some 76) (v := ?_) (a' := ?_) (bB 255) rfl rfl (any_of HT_.out (by kernel_rfl)) (fun _ _ _ h => h) (Or.inl ⟨by rfl, ?_⟩) ?_ ?_
       rotate_left
       · intro w'; go_simp; with_reducible rfl
       rotate_left
       · simp only [Act.put, LsA, LsZ, LsS, i64_w, i32_w]; rfl
       refine pure_ (i := 8) (N := some 77) (v := ?_) (a' := ?_) (bB 511) rfl rfl (any_of HT_.out (by kernel_rfl)) (fun _ _ _ h => h) (Or.inl ⟨by rfl, ?_⟩) ?_ ?_
       rotate_left
       · intro w'; go_simp; with_reducible rfl
       rotate_left
       · simp only [Act.put, LsA, LsZ, LsS, i64_w, i32_w]; rfl
       refine pure_ (i := 9) (N := some 78) (v := ?_) (a' := ?_) (bB 1023) rfl rfl (any_of HT_.out (by kernel_rfl)) (fun _ _ _ h => h) (Or.inl ⟨by rfl, ?_⟩) ?_ ?_
       rotate_left
       · intro w'; go_simp; with_reducible rfl
       rotate_left
       · simp only [Act.put, LsA, LsZ, LsS, i64_w, i32_w]; rfl
       refine pure_ (i := 10) (N := some 79) (v := ?_) (a' := ?_) (bB 2047) rfl rfl (any_of HT_.out (by kernel_rfl)) (fun _ _ _ h => h) (Or.inl ⟨by rfl, ?_⟩) ?_ ?_
       rotate_left
       · intro w'; go_simp; with_reducible rfl
       rotate_left
       · simp only [Act.put, LsA, LsZ, LsS, i64_w, i32_w]; rfl
       refine take_ (i := 11) (N := some 80) (v := ?_) (a' := ?_) (bB 4095) rfl rfl (take_ofW HT_.out HW_.out (by kernel_rfl)) (fun _ _ _ h => h) (Or.inl ⟨by rfl, ?_⟩) hHeld ?_ ?_
       rotate_left
       ·
        rintro w' hw
        have y0 := (hw.cell (World.block_lt_of_cell? wr _ hx0)).trans hx0; go_simp; with_reducible rfl
       rotate_left
       · simp only [Act.put, LsA, LsZ, LsS, i64_w, i32_w]; rfl
       refine pure_ (i := 12) (N := some 81) (v := ?_) (a' := ?_) (bB 8191) rfl rfl (any_of HT_.out (by kernel_rfl)) (fun _ _ _ h => h) (Or.inl ⟨by rfl, ?_⟩) ?_ ?_
       rotate_left
       · intro w'; go_simp; with_reducible rfl
       rotate_left
       · simp only [Act.put, LsA, LsZ, LsS, i64_w, i32_w]; rfl
       refine pure_ (i := 13) (N := some 82) (v := ?_) (a' := ?_) (bB 16383) rfl rfl (any_of HT_.out (by kernel_rfl)) (fun _ _ _ h => h) (Or.inl ⟨by rfl, ?_⟩) ?_ ?_
       rotate_left
       · intro w'; go_simp; with_reducible rfl
       rotate_left
       · simp only [Act.put, LsA, LsZ, LsS, i64_w, i32_w]; rfl
       refine pure_ (i := 14) (N := some 83) (v := ?_) (a' := ?_) (bB 32767) rfl rfl (any_of HT_.out (by kernel_rfl)) (fun _ _ _ h => h) (Or.inl ⟨by rfl, ?_⟩) ?_ ?_
       rotate_left
       · intro w'; go_simp; with_reducible rfl
       rotate_left
       · simp only [Act.put, LsA, LsZ, LsS, i64_w, i32_w]; rfl
       refine pure_ (i := 15) (N := some 84) (v := ?_) (a' := ?_) (bB 65535) rfl rfl (any_of HT_.out (by kernel_rfl)) (fun _ _ _ h => h) (Or.inl ⟨by rfl, ?_⟩) ?_ ?_
       rotate_left
       · intro w'; go_simp; with_reducible rfl
       rotate_left
       · simp only [Act.put, LsA, LsZ, LsS, i64_w, i32_w]; rfl
       refine pure_ (i := 16) (N := some 85) (v := ?_) (a' := ?_) (bB 131071) rfl rfl (any_of HT_.out (by kernel_rfl)) (fun _ _ _ h => h) (Or.inl ⟨by rfl, ?_⟩) ?_ ?_
       rotate_left
       · intro w'; go_simp; with_reducible rfl
       rotate_left
       · simp only [Act.put, LsA, LsZ, LsS, i64_w, i32_w]; rfl
       refine pure_ (i := 17) (N := some 86) (v := ?_) (a' := ?_) (bB 262143) rfl rfl (any_of HT_.out (by kernel_rfl)) (fun _ _ _ h => h) (Or.inl ⟨by rfl, ?_⟩) ?_ ?_
       rotate_left
       · intro w'; go_simp; with_reducible rfl
       rotate_left
       · simp only [Act.put, LsA, LsZ, LsS, i64_w, i32_w]; rfl
       refine take_ (i := 18) (N := some 87) (v := ?_) (a' := ?_) (bB 524287) rfl rfl (take_ofW HT_.out HW_.out (by kernel_rfl)) (fun _ _ _ h => h) (Or.inl ⟨by rfl, ?_⟩) hHeld ?_ ?_
       rotate_left
       ·
        rintro w' hw
        have y2 := (hw.cell (World.block_lt_of_cell? wr _ hx2)).trans hx2; go_simp; with_reducible rfl
       rotate_left
       · simp only [Act.put, LsA, LsZ, LsS, i64_w, i32_w]; rfl
       refine pure_ (i := 19) (N := some 88) (v := ?_) (a' := ?_) (bB 1048575) rfl rfl (any_of HT_.out (by kernel_rfl)) (fun _ _ _ h => h) (Or.inl ⟨by rfl, ?_⟩) ?_ ?_
       rotate_left
       · intro w'; go_simp; with_reducible rfl
       rotate_left
       · simp only [Act.put, LsA, LsZ, LsS, i64_w, i32_w]; rfl
       refine pure_ (i := 20) (N := some 89) (v := ?_) (a' := ?_) (bB 2097151) rfl rfl (any_of HT_.out (by kernel_rfl)) (fun _ _ _ h => h) (Or.inl ⟨by rfl, ?_⟩) ?_ ?_
       rotate_left
       · intro w'; go_simp; with_reducible rfl
       rotate_left
       · simp only [Act.put, LsA, LsZ, LsS, i64_w, i32_w]; rfl
       refine pure_ (i := 21) (N := some 90) (v := ?_) (a' := ?_) (bB 4194303) rfl rfl (any_of HT_.out (by kernel_rfl)) (fun _ _ _ h => h) (Or.inl ⟨by rfl, ?_⟩) ?_ ?_
       rotate_left
       · intro w'; go_simp; with_reducible rfl
       rotate_left
       · simp only [Act.put, LsA, LsZ, LsS, i64_w, i32_w]; rfl
       refine pure_ (i := 22) (N := some 91) (v := ?_) (a' := ?_) (bB 8388607) rfl rfl (any_of HT_.out (by kernel_rfl)) (fun _ _ _ h => h) (Or.inl ⟨by rfl, ?_⟩) ?_ ?_
       rotate_left
       · intro w'; go_simp; with_reducible rfl
       rotate_left
       · simp only [Act.put, LsA, LsZ, LsS, i64_w, i32_w]; rfl
       refine pure_ (i := 23) (N := some 92) (v := ?_) (a' := ?_) (bB 16777215) rfl rfl (any_of HT_.out (by kernel_rfl)) (fun _ _ _ h => h) (Or.inl ⟨by rfl, ?_⟩) ?_ ?_
       rotate_left
       · intro w'; go_simp; with_reducible rfl
       rotate_left
       · simp only [Act.put, LsA, LsZ, LsS, i64_w, i32_w]; rfl
       refine pure_ (i := 24) (N := some 93) (v := ?_) (a' := ?_) (bB 33554431) rfl rfl (any_of HT_.out (by kernel_rfl)) (fun _ _ _ h => h) (Or.inl ⟨by rfl, ?_⟩) ?_ ?_
       rotate_left
       · intro w'; go_simp; with_reducible rfl
       rotate_left
       · simp only [Act.put, LsA, LsZ, LsS, i64_w, i32_w]; rfl
       refine take_ (i := 25) (N := some 94) (v := ?_) (a' := ?_) (bB 67108863) rfl rfl (take_ofW HT_.out HW_.out (by kernel_rfl)) (fun _ _ _ h => h) (Or.inl ⟨by rfl, ?_⟩) hHeld ?_ ?_
       rotate_left
       ·
        rintro w' hw
        have y2 := (hw.cell (World.block_lt_of_cell? wr _ hx2)).trans hx2; go_simp; with_reducible rfl
       rotate_left
       · simp only [Act.put, LsA, LsZ, LsS, i64_w, i32_w]; rfl
       refine pure_ (i := 26) (N := some 95) (v := ?_) (a' := ?_) (bB 134217727) rfl rfl (any_of HT_.out (by kernel_rfl)) (fun _ _ _ h => h) (Or.inl ⟨by rfl, ?_⟩) ?_ ?_
       rotate_left
       · intro w'; go_simp; with_reducible rfl
       rotate_left
       · simp only [Act.put, LsA, LsZ, LsS, i64_w, i32_w]; rfl
       refine pure_ (i := 27) (N := some 96) (v := ?_) (a' := ?_) (bB 268435455) rfl rfl (any_of HT_.out (by kernel_rfl)) (fun _ _ _ h => h) (Or.inl ⟨by rfl, ?_⟩) ?_ ?_
       rotate_left
       · intro w'; go_simp; with_reducible rfl
       rotate_left
       · simp only [Act.put, LsA, LsZ, LsS, i64_w, i32_w]; rfl
       refine pure_ (i := 28) (N := some 97) (v := ?_) (a' := ?_) (bB 536870911) rfl rfl (any_of HT_.out (by kernel_rfl)) (fun _ _ _ h => h) (Or.inl ⟨by rfl, ?_⟩) ?_ ?_
       rotate_left
       · intro w'; go_simp; with_reducible rfl
       rotate_left
       · simp only [Act.put, LsA, LsZ, LsS, i64_w, i32_w]; rfl
       refine pure_ (i := 29) (N := some 98) (v := ?_) (a' := ?_) (bB 1073741823) rfl rfl (any_of HT_.out (by kernel_rfl)) (fun _ _ _ h => h) (Or.inl ⟨by rfl, ?_⟩) ?_ ?_
       rotate_left
       · intro w'; go_simp; with_reducible rfl
       rotate_left
       · simp only [Act.put, LsA, LsZ, LsS, i64_w, i32_w]; rfl
       refine pure_ (i := 30) (N := some 99) (v := ?_) (a' := ?_) (bB 2147483647) rfl rfl (any_of HT_.out (by kernel_rfl)) (fun _ _ _ h => h) (Or.inl ⟨by rfl, ?_⟩) ?_ ?_
       rotate_left
       · intro w'; go_simp; with_reducible rfl
       rotate_left
       · simp only [Act.put, LsA, LsZ, LsS, i64_w, i32_w]; rfl
       refine pure_ (i := 31) (N := some 100) (v := ?_) (a' := ?_) (bB 4294967295) rfl rfl (any_of HT_.out (by kernel_rfl)) (fun _ _ _ h => h) (Or.inl ⟨by rfl, ?_⟩) ?_ ?_
       rotate_left
       · intro w'; go_simp; with_reducible rfl
       rotate_left
       · simp only [Act.put, LsA, LsZ, LsS, i64_w, i32_w]; rfl
       refine pure_ (i := 32) (N := some 101) (v := ?_) (a' := ?_) (bB 8589934591) rfl rfl (any_of HT_.out (by kernel_rfl)) (fun _ _ _ h => h) (Or.inl ⟨by rfl, ?_⟩) ?_ ?_
       rotate_left
       · intro w'; go_simp; with_reducible rfl
       rotate_left
       · simp only [Act.put, LsA, LsZ, LsS, i64_w, i32_w]; rfl
       refine pure_ (i := 33) (N := some 102) (v := ?_) (a' := ?_) (bB 17179869183) rfl rfl (any_of HT_.out (by kernel_rfl)) (fun _ _ _ h => h) (Or.inl ⟨by rfl, ?_⟩) ?_ ?_
       rotate_left
       · intro w'; go_simp; with_reducible rfl
       rotate_left
       · simp only [Act.put, LsA, LsZ, LsS, i64_w, i32_w]; rfl
       refine pure_ (i := 34) (N := some 103) (v := ?_) (a' := ?_) (bB 34359738367) rfl rfl (any_of HT_.out (by kernel_rfl)) (fun _ _ _ h => h) (Or.inl ⟨by rfl, ?_⟩) ?_ ?_
       rotate_left
       · intro w'; go_simp; with_reducible rfl
       rotate_left
       · simp only [Act.put, LsA, LsZ, LsS, i64_w, i32_w]; rfl
       refine take_ (i := 35) (N := some 104) (v := ?_) (a' := ?_) (bB 68719476735) rfl rfl (take_ofW HT_.out HW_.out (by kernel_rfl)) (fun _ _ _ h => h) (Or.inl ⟨by rfl, ?_⟩) hHeld ?_ ?_
       rotate_left
       ·
        rintro w' hw
        have y1 := (hw.cell (World.block_lt_of_cell? wr _ hx1)).trans hx1; go_simp; with_reducible rfl
       rotate_left
       · simp only [Act.put, LsA, LsZ, LsS, i64_w, i32_w]; rfl
       refine pure_ (i := 36) (N := some 105) (v := ?_) (a' := ?_) (bB 137438953471) rfl rfl (any_of HT_.out (by kernel_rfl)) (fun _ _ _ h => h) (Or.inl ⟨by rfl, ?_⟩) ?_ ?_
       rotate_left
       · intro w'; go_simp; with_reducible rfl
       rotate_left
       · simp only [Act.put, LsA, LsZ, LsS, i64_w, i32_w]; rfl
       refine pure_ (i := 37) (N := some 106) (v := ?_) (a' := ?_) (bB 274877906943) rfl rfl (any_of HT_.out (by kernel_rfl)) (fun _ _ _ h => h) (Or.inl ⟨by rfl, ?_⟩) ?_ ?_
       rotate_left
       · intro w'; go_simp; with_reducible rfl
       rotate_left
       · simp only [Act.put, LsA, LsZ, LsS, i64_w, i32_w]; rfl
       refine pure_ (i := 38) (N := some 107) (v := undef) (a' := ?_) (bB 549755813887) rfl rfl (any_of HT_.out (by kernel_rfl)) (fun _ _ _ h => h) (Or.inr ⟨by rfl, rfl⟩) ?_ ?_
       rotate_left
       · simp only [Act.put, LsA, LsZ, LsS, i64_w, i32_w]; rfl
       refine pure_ (i := 39) (N := some 108) (v := undef) (a' := ?_) (bB 1099511627775) rfl rfl (any_of HT_.out (by kernel_rfl)) (fun _ _ _ h => h) (Or.inr ⟨by rfl, rfl⟩) ?_ ?_
       rotate_left
       · simp only [Act.put, LsA, LsZ, LsS, i64_w, i32_w]; rfl
       refine pure_ (i := 40) (N := some 109) (v := undef) (a' := ?_) (bB 2199023255551) rfl rfl (any_of HT_.out (by kernel_rfl)) (fun _ _ _ h => h) (Or.inr ⟨by rfl, rfl⟩) ?_ ?_
       rotate_left
       · simp only [Act.put, LsA, LsZ, LsS, i64_w, i32_w]; rfl
       refine pure_ (i := 41) (N := some 110) (v := undef) (a' := ?_) (bB 4398046511103) rfl rfl (any_of HT_.out (by kernel_rfl)) (fun _ _ _ h => h) (Or.inr ⟨by rfl, rfl⟩) ?_ ?_
       rotate_left
       · simp only [Act.put, LsA, LsZ, LsS, i64_w, i32_w]; rfl
       refine pure_ (i := 42) (N := some 111) (v := undef) (a' := ?_) (bB 8796093022207) rfl rfl (any_of HT_.out (by kernel_rfl)) (fun _ _ _ h => h) (Or.inr ⟨by rfl, rfl⟩) ?_ ?_
       rotate_left
       · simp only [Act.put, LsA, LsZ, LsS, i64_w, i32_w]; rfl
       refine pure_ (i := 43) (N := some 112) (v := undef) (a' := ?_) (bB 17592186044415) rfl rfl (any_of HT_.out (by kernel_rfl)) (fun _ _ _ h => h) (Or.inr ⟨by rfl, rfl⟩) ?_ ?_
       rotate_left
       · simp only [Act.put, LsA, LsZ, LsS, i64_w, i32_w]; rfl
       refine pure_ (i := 44) (N := some 113) (v := undef) (a' := ?_) (bB 35184372088831) rfl rfl (any_of HT_.out (by kernel_rfl)) (fun _ _ _ h => h) (Or.inr ⟨by rfl, rfl⟩) ?_ ?_
       rotate_left
       · simp only [Act.put, LsA, LsZ, LsS, i64_w, i32_w]; rfl
       refine pure_ (i := 45) (N := some 114) (v := ?_) (a' := ?_) (bB 70368744177663) rfl rfl (any_of HT_.out (by kernel_rfl)) (fun _ _ _ h => h) (Or.inl ⟨by rfl, ?_⟩) ?_ ?_
       rotate_left
       · intro w'; go_simp; with_reducible rfl
       rotate_left
       · simp only [Act.put, LsA, LsZ, LsS, i64_w, i32_w]; rfl
       refine pure_ (i := 46) (N := some 115) (v := ?_) (a' := ?_) (bB 140737488355327) rfl rfl (any_of HT_.out (by kernel_rfl)) (fun _ _ _ h => h) (Or.inl ⟨by rfl, ?_⟩) ?_ ?_
       rotate_left
       · intro w'; go_simp; with_reducible rfl
       rotate_left
       · simp only [Act.put, LsA, LsZ, LsS, i64_w, i32_w]; rfl
       refine pure_ (i := 47) (N := some 116) (v := ?_) (a' := ?_) (bB 281474976710655) rfl rfl (any_of HT_.out (by kernel_rfl)) (fun _ _ _ h => h) (Or.inl ⟨by rfl, ?_⟩) ?_ ?_
       rotate_left
       · intro w'; go_simp; with_reducible rfl
       rotate_left
       · simp only [Act.put, LsA, LsZ, LsS, i64_w, i32_w]; rfl
       refine pure_ (i := 48) (N := some 117) (v := ?_) (a' := ?_) (bB 562949953421311) rfl rfl (any_of HT_.out (by kernel_rfl)) (fun _ _ _ h => h) (Or.inl ⟨by rfl, ?_⟩) ?_ ?_
       rotate_left
       · intro w'; go_simp; with_reducible rfl
       rotate_left
       · simp only [Act.put, LsA, LsZ, LsS, i64_w, i32_w]; rfl
       refine take_ (i := 49) (N := some 118) (v := ?_) (a' := ?_) (bB 1125899906842623) rfl rfl (take_ofW HT_.out HW_.out (by kernel_rfl)) (fun _ _ _ h => h) (Or.inl ⟨by rfl, ?_⟩) hHeld ?_ ?_
       rotate_left
       ·
        rintro w' hw
        have y9 := (blk_cell (blk_below HCW.out hw) 2).trans h2; go_simp; with_reducible rfl
       rotate_left
       · simp only [Act.put, LsA, LsZ, LsS, i64_w, i32_w]; rfl
       refine pure_ (i := 50) (N := some 119) (v := ?_) (a' := ?_) (bB 2251799813685247) rfl rfl (any_of HT_.out (by kernel_rfl)) (fun _ _ _ h => h) (Or.inl ⟨by rfl, ?_⟩) ?_ ?_
       rotate_left
       · intro w'; go_simp; with_reducible rfl
       rotate_left
       · simp only [Act.put, LsA, LsZ, LsS, i64_w, i32_w]; rfl
       refine pure_ (i := 51) (N := some 120) (v := ?_) (a' := ?_) (bB 4503599627370495) rfl rfl (any_of HT_.out (by kernel_rfl)) (fun _ _ _ h => h) (Or.inl ⟨by rfl, ?_⟩) ?_ ?_
       rotate_left
       · intro w'; go_simp; with_reducible rfl
       rotate_left
       · simp only [Act.put, LsA, LsZ, LsS, i64_w, i32_w]; rfl
       refine pure_ (i := 52) (N := some 121) (v := ?_) (a' := ?_) (bB 9007199254740991) rfl rfl (any_of HT_.out (by kernel_rfl)) (fun _ _ _ h => h) (Or.inl ⟨by rfl, ?_⟩) ?_ ?_
       rotate_left
       · intro w'; go_simp; with_reducible rfl
       rotate_left
       · simp only [Act.put, LsA, LsZ, LsS, i64_w, i32_w]; rfl
       refine pure_ (i := 53) (N := some 122) (v := ?_) (a' := ?_) (bB 18014398509481983) rfl rfl (any_of HT_.out (by kernel_rfl)) (fun _ _ _ h => h) (Or.inl ⟨by rfl, ?_⟩) ?_ ?_
       rotate_left
       · intro w'; go_simp; with_reducible rfl
       rotate_left
       · simp only [Act.put, LsA, LsZ, LsS, i64_w, i32_w]; rfl
       refine take_ (i := 54) (N := some 123) (v := ?_) (a' := ?_) (bB 36028797018963967) rfl rfl (take_ofW HT_.out HW_.out (by kernel_rfl)) (fun _ _ _ h => h) (Or.inl ⟨by rfl, ?_⟩) hHeld ?_ ?_
       rotate_left
       ·
        rintro w' hw
        have y3 := (hw.cell (World.block_lt_of_cell? wr _ hx3)).trans hx3; go_simp; with_reducible rfl
       rotate_left
       · simp only [Act.put, LsA, LsZ, LsS, i64_w, i32_w]; rfl
       refine one_ (i := 55) (N := some 124) (bB 72057594037927935) rfl rfl (one_of HT_.out (by kernel_rfl)) (by decide) (fun K hK => ?_)
       refine goes_ Tryz.func29 (by kernel_rfl) rfl #[.slice B ts.length cb, .slice A3 sc.length c3] (by rfl) rfl rfl (by (try simp only [List.map_toArray, List.map_cons, List.map_nil]); first | done | rfl) ?_
       refine (belfryref04_Fits.calls k B cb ts A3 c3 sc false _ (Kd.C_below (Kd.C_below HA.out HB.out) hHeld) hac (Kd.C_below HG3.out hHeld) l3 HFI.out).mono ?_
       rintro e w3 ⟨rfl, hd2⟩
       refine ⟨_, rfl, ?_⟩
       refine hK.out _ _ (below_step hHeld hd2) (fun hHeld => ?_)
       clear hK K hd2
       refine norm_ (a' := ?_) ?_ ?_
       rotate_left
       ·
        show Act.put _ (some 124) _ = _
        simp only [Act.put, LsA, LsZ, LsS, i64_w, i32_w]; rfl
       refine pure_ (i := 56) (N := some 125) (v := ?_) (a' := ?_) (bB 144115188075855871) rfl rfl (any_of HT_.out (by kernel_rfl)) (fun _ _ _ h => h) (Or.inl ⟨by rfl, ?_⟩) ?_ ?_
       rotate_left
       · intro w'; go_simp; with_reducible rfl
       rotate_left
       · simp only [Act.put, LsA, LsZ, LsS, i64_w, i32_w]; rfl
       refine done_ (done_of HT_.out (by kernel_rfl)) ?_
       go_wp2
       go_meet
       case rel => exact ⟨rfl, ⟨hHeld⟩⟩
      replace ck := Bool.eq_false_iff.2 ck
      by_cases cq : (kx == kd) = true
      case pos =>
       have hb0 : bf = false := Bool.eq_false_iff.2 (fun hh => hno ⟨rfl, rfl, cst, .inr cq, hh⟩)
       subst hb0
       refine start_ (n := 57) (S := fun w' => Below wr.heap.size wr w') (ds := []) (bB 0) (by kernel_rfl) rfl rfl (below_drew1 (Below.refl _ _)) (fun hHeld => ?_)
       refine with_tabW belfrylaw11_PolicyDenies.tab12 belfrylaw11_PolicyDenies.bits12 (fun HT_ HW_ => ?_)
       generalize wr.drew = W0 at hHeld ⊢
       refine pure_ (i := 0) (N := some 69) (v := ?_) (a' := ?_) (bB 1) rfl rfl (any_of HT_.out (by kernel_rfl)) (fun _ _ _ h => h) (Or.inl ⟨by rfl, ?_⟩) ?_ ?_
       rotate_left
       · intro w'; go_simp; with_reducible rfl
       rotate_left
       · simp only [Act.put, LsA, LsZ, LsS, i64_w, i32_w]; rfl
       refine pure_ (i := 1) (N := some 70) (v := ?_) (a' := ?_) (bB 3) rfl rfl (any_of HT_.out (by kernel_rfl)) (fun _ _ _ h => h) (Or.inl ⟨by rfl, ?_⟩) ?_ ?_
       rotate_left
       · intro w'; go_simp; with_reducible rfl
       rotate_left
       · simp only [Act.put, LsA, LsZ, LsS, i64_w, i32_w]; rfl
       refine pure_ (i := 2) (N := some 71) (v := ?_) (a' := ?_) (bB 7) rfl rfl (any_of HT_.out (by kernel_rfl)) (fun _ _ _ h => h) (Or.inl ⟨by rfl, ?_⟩) ?_ ?_
       rotate_left
       · intro w'; go_simp; with_reducible rfl
       rotate_left
       · simp only [Act.put, LsA, LsZ, LsS, i64_w, i32_w]; rfl
       refine take_ (i := 3) (N := some 72) (v := ?_) (a' := ?_) (bB 15) rfl rfl (take_ofW HT_.out HW_.out (by kernel_rfl)) (fun _ _ _ h => h) (Or.inl ⟨by rfl, ?_⟩) hHeld ?_ ?_
       rotate_left
       ·
        rintro w' hw
        have y0 := (hw.cell (World.block_lt_of_cell? wr _ hx0)).trans hx0; have y1 := (hw.cell (World.block_lt_of_cell? wr _ hx1)).trans hx1; have y2 := (hw.cell (World.block_lt_of_cell? wr _ hx2)).trans hx2; have y3 := (hw.cell (World.block_lt_of_cell? wr _ hx3)).trans hx3; have y4 := (hw.cell (World.block_lt_of_cell? wr _ hx4)).trans hx4; go_simp; with_reducible rfl
       rotate_left
       · simp only [Act.put, LsA, LsZ, LsS, i64_w, i32_w]; rfl
       refine one_ (i := 4) (N := some 73) (bB 31) rfl rfl (one_of HT_.out (by kernel_rfl)) (by decide) (fun K hK => ?_)
       refine goes_ Tryz.func23 (by kernel_rfl) rfl #[.agg #[.bool true, .int .i64 kx, .string tn, .slice A3 sc.length c3, .slice A4 hd.length c4]] (by rfl) rfl rfl (by (try simp only [List.map_toArray, List.map_cons, List.map_nil]); first | done | rfl) ?_
       refine (belfryref11_Right.calls k true kx tn A3 c3 sc A4 c4 hd 0 _ (Kd.C_below HG3.out hHeld) l3 (Kd.C_below HG4.out hHeld) l4 HRI.out).mono ?_
       rintro e w2 ⟨rfl, hd2⟩
       refine ⟨_, rfl, ?_⟩
       refine hK.out _ _ (below_step hHeld hd2) (fun hHeld => ?_)
       clear hK K hd2
       refine norm_ (a' := ?_) ?_ ?_
       rotate_left
       ·
        show Act.put _ (some 73) _ = _
        simp only [Act.put, LsA, LsZ, LsS, i64_w, i32_w]; rfl
       refine pure_ (i := 5) (N := some 74) (v := ?_) (a' := ?_) (bB 63) rfl rfl (any_of HT_.out (by kernel_rfl)) (fun _ _ _ h => h) (Or.inl ⟨by rfl, ?_⟩) ?_ ?_
       rotate_left
       · intro w'; go_simp; with_reducible rfl
       rotate_left
       · simp only [Act.put, LsA, LsZ, LsS, i64_w, i32_w]; rfl
       refine pure_ (i := 6) (N := some 75) (v := ?_) (a' := ?_) (bB 127) rfl rfl (any_of HT_.out (by kernel_rfl)) (fun _ _ _ h => h) (Or.inl ⟨by rfl, ?_⟩) ?_ ?_
       rotate_left
       · intro w'; go_simp; with_reducible rfl
       rotate_left
       · simp only [Act.put, LsA, LsZ, LsS, i64_w, i32_w]; rfl
       refine pure_ (i := 7) (N := some 76) (v := ?_) (a' := ?_) (bB 255) rfl rfl (any_of HT_.out (by kernel_rfl)) (fun _ _ _ h => h) (Or.inl ⟨by rfl, ?_⟩) ?_ ?_
       rotate_left
       · intro w'; go_simp; with_reducible rfl
       rotate_left
       · simp only [Act.put, LsA, LsZ, LsS, i64_w, i32_w]; rfl
       refine pure_ (i := 8) (N := some 77) (v := ?_) (a' := ?_) (bB 511) rfl rfl (any_of HT_.out (by kernel_rfl)) (fun _ _ _ h => h) (Or.inl ⟨by rfl, ?_⟩) ?_ ?_
       rotate_left
       · intro w'; go_simp; with_reducible rfl
       rotate_left
       · simp only [Act.put, LsA, LsZ, LsS, i64_w, i32_w]; rfl
       refine pure_ (i := 9) (N := some 78) (v := ?_) (a' := ?_) (bB 1023) rfl rfl (any_of HT_.out (by kernel_rfl)) (fun _ _ _ h => h) (Or.inl ⟨by rfl, ?_⟩) ?_ ?_
       rotate_left
       · intro w'; go_simp; with_reducible rfl
       rotate_left
       · simp only [Act.put, LsA, LsZ, LsS, i64_w, i32_w]; rfl
       refine pure_ (i := 10) (N := some 79) (v := ?_) (a' := ?_) (bB 2047) rfl rfl (any_of HT_.out (by kernel_rfl)) (fun _ _ _ h => h) (Or.inl ⟨by rfl, ?_⟩) ?_ ?_
       rotate_left
       · intro w'; go_simp; with_reducible rfl
       rotate_left
       · simp only [Act.put, LsA, LsZ, LsS, i64_w, i32_w]; rfl
       refine take_ (i := 11) (N := some 80) (v := ?_) (a' := ?_) (bB 4095) rfl rfl (take_ofW HT_.out HW_.out (by kernel_rfl)) (fun _ _ _ h => h) (Or.inl ⟨by rfl, ?_⟩) hHeld ?_ ?_
       rotate_left
       ·
        rintro w' hw
        have y0 := (hw.cell (World.block_lt_of_cell? wr _ hx0)).trans hx0; go_simp; with_reducible rfl
       rotate_left
       · simp only [Act.put, LsA, LsZ, LsS, i64_w, i32_w]; rfl
       refine pure_ (i := 12) (N := some 81) (v := ?_) (a' := ?_) (bB 8191) rfl rfl (any_of HT_.out (by kernel_rfl)) (fun _ _ _ h => h) (Or.inl ⟨by rfl, ?_⟩) ?_ ?_
       rotate_left
       · intro w'; go_simp; with_reducible rfl
       rotate_left
       · simp only [Act.put, LsA, LsZ, LsS, i64_w, i32_w]; rfl
       refine pure_ (i := 13) (N := some 82) (v := ?_) (a' := ?_) (bB 16383) rfl rfl (any_of HT_.out (by kernel_rfl)) (fun _ _ _ h => h) (Or.inl ⟨by rfl, ?_⟩) ?_ ?_
       rotate_left
       · intro w'; go_simp; with_reducible rfl
       rotate_left
       · simp only [Act.put, LsA, LsZ, LsS, i64_w, i32_w]; rfl
       refine pure_ (i := 14) (N := some 83) (v := ?_) (a' := ?_) (bB 32767) rfl rfl (any_of HT_.out (by kernel_rfl)) (fun _ _ _ h => h) (Or.inl ⟨by rfl, ?_⟩) ?_ ?_
       rotate_left
       · intro w'; go_simp; with_reducible rfl
       rotate_left
       · simp only [Act.put, LsA, LsZ, LsS, i64_w, i32_w]; rfl
       refine pure_ (i := 15) (N := some 84) (v := ?_) (a' := ?_) (bB 65535) rfl rfl (any_of HT_.out (by kernel_rfl)) (fun _ _ _ h => h) (Or.inl ⟨by rfl, ?_⟩) ?_ ?_
       rotate_left
       · intro w'; go_simp; with_reducible rfl
       rotate_left
       · simp only [Act.put, LsA, LsZ, LsS, i64_w, i32_w]; rfl
       refine pure_ (i := 16) (N := some 85) (v := ?_) (a' := ?_) (bB 131071) rfl rfl (any_of HT_.out (by kernel_rfl)) (fun _ _ _ h => h) (Or.inl ⟨by rfl, ?_⟩) ?_ ?_
       rotate_left
       · intro w'; go_simp; with_reducible rfl
       rotate_left
       · simp only [Act.put, LsA, LsZ, LsS, i64_w, i32_w]; rfl
       refine pure_ (i := 17) (N := some 86) (v := ?_) (a' := ?_) (bB 262143) rfl rfl (any_of HT_.out (by kernel_rfl)) (fun _ _ _ h => h) (Or.inl ⟨by rfl, ?_⟩) ?_ ?_
       rotate_left
       · intro w'; go_simp; with_reducible rfl
       rotate_left
       · simp only [Act.put, LsA, LsZ, LsS, i64_w, i32_w]; rfl
       refine take_ (i := 18) (N := some 87) (v := ?_) (a' := ?_) (bB 524287) rfl rfl (take_ofW HT_.out HW_.out (by kernel_rfl)) (fun _ _ _ h => h) (Or.inl ⟨by rfl, ?_⟩) hHeld ?_ ?_
       rotate_left
       ·
        rintro w' hw
        have y2 := (hw.cell (World.block_lt_of_cell? wr _ hx2)).trans hx2; go_simp; with_reducible rfl
       rotate_left
       · simp only [Act.put, LsA, LsZ, LsS, i64_w, i32_w]; rfl
       refine pure_ (i := 19) (N := some 88) (v := ?_) (a' := ?_) (bB 1048575) rfl rfl (any_of HT_.out (by kernel_rfl)) (fun _ _ _ h => h) (Or.inl ⟨by rfl, ?_⟩) ?_ ?_
       rotate_left
       · intro w'; go_simp; with_reducible rfl
       rotate_left
       · simp only [Act.put, LsA, LsZ, LsS, i64_w, i32_w]; rfl
       refine pure_ (i := 20) (N := some 89) (v := ?_) (a' := ?_) (bB 2097151) rfl rfl (any_of HT_.out (by kernel_rfl)) (fun _ _ _ h => h) (Or.inl ⟨by rfl, ?_⟩) ?_ ?_
       rotate_left
       · intro w'; go_simp; with_reducible rfl
       rotate_left
       · simp only [Act.put, LsA, LsZ, LsS, i64_w, i32_w]; rfl
       refine pure_ (i := 21) (N := some 90) (v := ?_) (a' := ?_) (bB 4194303) rfl rfl (any_of HT_.out (by kernel_rfl)) (fun _ _ _ h => h) (Or.inl ⟨by rfl, ?_⟩) ?_ ?_
       rotate_left
       · intro w'; go_simp; with_reducible rfl
       rotate_left
       · simp only [Act.put, LsA, LsZ, LsS, i64_w, i32_w]; rfl
       refine pure_ (i := 22) (N := some 91) (v := ?_) (a' := ?_) (bB 8388607) rfl rfl (any_of HT_.out (by kernel_rfl)) (fun _ _ _ h => h) (Or.inl ⟨by rfl, ?_⟩) ?_ ?_
       rotate_left
       · intro w'; go_simp; with_reducible rfl
       rotate_left
       · simp only [Act.put, LsA, LsZ, LsS, i64_w, i32_w]; rfl
       refine pure_ (i := 23) (N := some 92) (v := ?_) (a' := ?_) (bB 16777215) rfl rfl (any_of HT_.out (by kernel_rfl)) (fun _ _ _ h => h) (Or.inl ⟨by rfl, ?_⟩) ?_ ?_
       rotate_left
       · intro w'; go_simp; with_reducible rfl
       rotate_left
       · simp only [Act.put, LsA, LsZ, LsS, i64_w, i32_w]; rfl
       refine pure_ (i := 24) (N := some 93) (v := ?_) (a' := ?_) (bB 33554431) rfl rfl (any_of HT_.out (by kernel_rfl)) (fun _ _ _ h => h) (Or.inl ⟨by rfl, ?_⟩) ?_ ?_
       rotate_left
       · intro w'; go_simp; with_reducible rfl
       rotate_left
       · simp only [Act.put, LsA, LsZ, LsS, i64_w, i32_w]; rfl
       refine take_ (i := 25) (N := some 94) (v := ?_) (a' := ?_) (bB 67108863) rfl rfl (take_ofW HT_.out HW_.out (by kernel_rfl)) (fun _ _ _ h => h) (Or.inl ⟨by rfl, ?_⟩) hHeld ?_ ?_
       rotate_left
       ·
        rintro w' hw
        have y2 := (hw.cell (World.block_lt_of_cell? wr _ hx2)).trans hx2; go_simp; with_reducible rfl
       rotate_left
       · simp only [Act.put, LsA, LsZ, LsS, i64_w, i32_w]; rfl
       refine pure_ (i := 26) (N := some 95) (v := ?_) (a' := ?_) (bB 134217727) rfl rfl (any_of HT_.out (by kernel_rfl)) (fun _ _ _ h => h) (Or.inl ⟨by rfl, ?_⟩) ?_ ?_
       rotate_left
       · intro w'; go_simp; with_reducible rfl
       rotate_left
       · simp only [Act.put, LsA, LsZ, LsS, i64_w, i32_w]; rfl
       refine pure_ (i := 27) (N := some 96) (v := ?_) (a' := ?_) (bB 268435455) rfl rfl (any_of HT_.out (by kernel_rfl)) (fun _ _ _ h => h) (Or.inl ⟨by rfl, ?_⟩) ?_ ?_
       rotate_left
       · intro w'; go_simp; with_reducible rfl
       rotate_left
       · simp only [Act.put, LsA, LsZ, LsS, i64_w, i32_w]; rfl
       refine pure_ (i := 28) (N := some 97) (v := ?_) (a' := ?_) (bB 536870911) rfl rfl (any_of HT_.out (by kernel_rfl)) (fun _ _ _ h => h) (Or.inl ⟨by rfl, ?_⟩) ?_ ?_
       rotate_left
       · intro w'; go_simp; with_reducible rfl
       rotate_left
       · simp only [Act.put, LsA, LsZ, LsS, i64_w, i32_w]; rfl
       refine pure_ (i := 29) (N := some 98) (v := ?_) (a' := ?_) (bB 1073741823) rfl rfl (any_of HT_.out (by kernel_rfl)) (fun _ _ _ h => h) (Or.inl ⟨by rfl, ?_⟩) ?_ ?_
       rotate_left
       · intro w'; go_simp; with_reducible rfl
       rotate_left
       · simp only [Act.put, LsA, LsZ, LsS, i64_w, i32_w]; rfl
       refine pure_ (i := 30) (N := some 99) (v := ?_) (a' := ?_) (bB 2147483647) rfl rfl (any_of HT_.out (by kernel_rfl)) (fun _ _ _ h => h) (Or.inl ⟨by rfl, ?_⟩) ?_ ?_
       rotate_left
       · intro w'; go_simp; with_reducible rfl
       rotate_left
       · simp only [Act.put, LsA, LsZ, LsS, i64_w, i32_w]; rfl
       refine pure_ (i := 31) (N := some 100) (v := ?_) (a' := ?_) (bB 4294967295) rfl rfl (any_of HT_.out (by kernel_rfl)) (fun _ _ _ h => h) (Or.inl ⟨by rfl, ?_⟩) ?_ ?_
       rotate_left
       · intro w'; go_simp; with_reducible rfl
       rotate_left
       · simp only [Act.put, LsA, LsZ, LsS, i64_w, i32_w]; rfl
       refine pure_ (i := 32) (N := some 101) (v := ?_) (a' := ?_) (bB 8589934591) rfl rfl (any_of HT_.out (by kernel_rfl)) (fun _ _ _ h => h) (Or.inl ⟨by rfl, ?_⟩) ?_ ?_
       rotate_left
       · intro w'; go_simp; with_reducible rfl
       rotate_left
       · simp only [Act.put, LsA, LsZ, LsS, i64_w, i32_w]; rfl
       refine pure_ (i := 33) (N := some 102) (v := ?_) (a' := ?_) (bB 17179869183) rfl rfl (any_of HT_.out (by kernel_rfl)) (fun _ _ _ h => h) (Or.inl ⟨by rfl, ?_⟩) ?_ ?_
       rotate_left
       · intro w'; go_simp; with_reducible rfl
       rotate_left
       · simp only [Act.put, LsA, LsZ, LsS, i64_w, i32_w]; rfl
       refine pure_ (i := 34) (N := some 103) (v := ?_) (a' := ?_) (bB 34359738367) rfl rfl (any_of HT_.out (by kernel_rfl)) (fun _ _ _ h => h) (Or.inl ⟨by rfl, ?_⟩) ?_ ?_
       rotate_left
       · intro w'; go_simp; with_reducible rfl
       rotate_left
       · simp only [Act.put, LsA, LsZ, LsS, i64_w, i32_w]; rfl
       refine take_ (i := 35) (N := some 104) (v := ?_) (a' := ?_) (bB 68719476735) rfl rfl (take_ofW HT_.out HW_.out (by kernel_rfl)) (fun _ _ _ h => h) (Or.inl ⟨by rfl, ?_⟩) hHeld ?_ ?_
       rotate_left
       ·
        rintro w' hw
        have y1 := (hw.cell (World.block_lt_of_cell? wr _ hx1)).trans hx1; go_simp; with_reducible rfl
       rotate_left
       · simp only [Act.put, LsA, LsZ, LsS, i64_w, i32_w]; rfl
       refine pure_ (i := 36) (N := some 105) (v := ?_) (a' := ?_) (bB 137438953471) rfl rfl (any_of HT_.out (by kernel_rfl)) (fun _ _ _ h => h) (Or.inl ⟨by rfl, ?_⟩) ?_ ?_
       rotate_left
       · intro w'; go_simp; with_reducible rfl
       rotate_left
       · simp only [Act.put, LsA, LsZ, LsS, i64_w, i32_w]; rfl
       refine pure_ (i := 37) (N := some 106) (v := ?_) (a' := ?_) (bB 274877906943) rfl rfl (any_of HT_.out (by kernel_rfl)) (fun _ _ _ h => h) (Or.inl ⟨by rfl, ?_⟩) ?_ ?_
       rotate_left
       · intro w'; go_simp; with_reducible rfl
       rotate_left
       · simp only [Act.put, LsA, LsZ, LsS, i64_w, i32_w]; rfl
       refine pure_ (i := 38) (N := some 107) (v := ?_) (a' := ?_) (bB 549755813887) rfl rfl (any_of HT_.out (by kernel_rfl)) (fun _ _ _ h => h) (Or.inl ⟨by rfl, ?_⟩) ?_ ?_
       rotate_left
       · intro w'; go_simp; with_reducible rfl
       rotate_left
       · simp only [Act.put, LsA, LsZ, LsS, i64_w, i32_w]; rfl
       refine pure_ (i := 39) (N := some 108) (v := ?_) (a' := ?_) (bB 1099511627775) rfl rfl (any_of HT_.out (by kernel_rfl)) (fun _ _ _ h => h) (Or.inl ⟨by rfl, ?_⟩) ?_ ?_
       rotate_left
       · intro w'; go_simp; with_reducible rfl
       rotate_left
       · simp only [Act.put, LsA, LsZ, LsS, i64_w, i32_w]; rfl
       refine pure_ (i := 40) (N := some 109) (v := ?_) (a' := ?_) (bB 2199023255551) rfl rfl (any_of HT_.out (by kernel_rfl)) (fun _ _ _ h => h) (Or.inl ⟨by rfl, ?_⟩) ?_ ?_
       rotate_left
       · intro w'; go_simp; with_reducible rfl
       rotate_left
       · simp only [Act.put, LsA, LsZ, LsS, i64_w, i32_w]; rfl
       refine pure_ (i := 41) (N := some 110) (v := ?_) (a' := ?_) (bB 4398046511103) rfl rfl (any_of HT_.out (by kernel_rfl)) (fun _ _ _ h => h) (Or.inl ⟨by rfl, ?_⟩) ?_ ?_
       rotate_left
       · intro w'; go_simp; with_reducible rfl
       rotate_left
       · simp only [Act.put, LsA, LsZ, LsS, i64_w, i32_w]; rfl
       refine take_ (i := 42) (N := some 111) (v := ?_) (a' := ?_) (bB 8796093022207) rfl rfl (take_ofW HT_.out HW_.out (by kernel_rfl)) (fun _ _ _ h => h) (Or.inl ⟨by rfl, ?_⟩) hHeld ?_ ?_
       rotate_left
       ·
        rintro w' hw
        have y1 := (hw.cell (World.block_lt_of_cell? wr _ hx1)).trans hx1; go_simp; with_reducible rfl
       rotate_left
       · simp only [Act.put, LsA, LsZ, LsS, i64_w, i32_w]; rfl
       refine pure_ (i := 43) (N := some 112) (v := ?_) (a' := ?_) (bB 17592186044415) rfl rfl (any_of HT_.out (by kernel_rfl)) (fun _ _ _ h => h) (Or.inl ⟨by rfl, ?_⟩) ?_ ?_
       rotate_left
       · intro w'; go_simp; with_reducible rfl
       rotate_left
       · simp only [Act.put, LsA, LsZ, LsS, i64_w, i32_w]; rfl
       refine pure_ (i := 44) (N := some 113) (v := ?_) (a' := ?_) (bB 35184372088831) rfl rfl (any_of HT_.out (by kernel_rfl)) (fun _ _ _ h => h) (Or.inl ⟨by rfl, ?_⟩) ?_ ?_
       rotate_left
       · intro w'; go_simp; with_reducible rfl
       rotate_left
       · simp only [Act.put, LsA, LsZ, LsS, i64_w, i32_w]; rfl
       refine pure_ (i := 45) (N := some 114) (v := ?_) (a' := ?_) (bB 70368744177663) rfl rfl (any_of HT_.out (by kernel_rfl)) (fun _ _ _ h => h) (Or.inl ⟨by rfl, ?_⟩) ?_ ?_
       rotate_left
       · intro w'; go_simp; with_reducible rfl
       rotate_left
       · simp only [Act.put, LsA, LsZ, LsS, i64_w, i32_w]; rfl
       refine pure_ (i := 46) (N := some 115) (v := ?_) (a' := ?_) (bB 140737488355327) rfl rfl (any_of HT_.out (by kernel_rfl)) (fun _ _ _ h => h) (Or.inl ⟨by rfl, ?_⟩) ?_ ?_
       rotate_left
       · intro w'; go_simp; with_reducible rfl
       rotate_left
       · simp only [Act.put, LsA, LsZ, LsS, i64_w, i32_w]; rfl
       refine pure_ (i := 47) (N := some 116) (v := ?_) (a' := ?_) (bB 281474976710655) rfl rfl (any_of HT_.out (by kernel_rfl)) (fun _ _ _ h => h) (Or.inl ⟨by rfl, ?_⟩) ?_ ?_
       rotate_left
       · intro w'; go_simp; with_reducible rfl
       rotate_left
       · simp only [Act.put, LsA, LsZ, LsS, i64_w, i32_w]; rfl
       refine pure_ (i := 48) (N := some 117) (v := ?_) (a' := ?_) (bB 562949953421311) rfl rfl (any_of HT_.out (by kernel_rfl)) (fun _ _ _ h => h) (Or.inl ⟨by rfl, ?_⟩) ?_ ?_
       rotate_left
       · intro w'; go_simp; with_reducible rfl
       rotate_left
       · simp only [Act.put, LsA, LsZ, LsS, i64_w, i32_w]; rfl
       refine take_ (i := 49) (N := some 118) (v := ?_) (a' := ?_) (bB 1125899906842623) rfl rfl (take_ofW HT_.out HW_.out (by kernel_rfl)) (fun _ _ _ h => h) (Or.inl ⟨by rfl, ?_⟩) hHeld ?_ ?_
       rotate_left
       ·
        rintro w' hw
        have y9 := (blk_cell (blk_below HCW.out hw) 2).trans h2; go_simp; with_reducible rfl
       rotate_left
       · simp only [Act.put, LsA, LsZ, LsS, i64_w, i32_w]; rfl
       refine pure_ (i := 50) (N := some 119) (v := ?_) (a' := ?_) (bB 2251799813685247) rfl rfl (any_of HT_.out (by kernel_rfl)) (fun _ _ _ h => h) (Or.inl ⟨by rfl, ?_⟩) ?_ ?_
       rotate_left
       · intro w'; go_simp; with_reducible rfl
       rotate_left
       · simp only [Act.put, LsA, LsZ, LsS, i64_w, i32_w]; rfl
       refine pure_ (i := 51) (N := some 120) (v := ?_) (a' := ?_) (bB 4503599627370495) rfl rfl (any_of HT_.out (by kernel_rfl)) (fun _ _ _ h => h) (Or.inl ⟨by rfl, ?_⟩) ?_ ?_
       rotate_left
       · intro w'; go_simp; with_reducible rfl
       rotate_left
       · simp only [Act.put, LsA, LsZ, LsS, i64_w, i32_w]; rfl
       refine pure_ (i := 52) (N := some 121) (v := ?_) (a' := ?_) (bB 9007199254740991) rfl rfl (any_of HT_.out (by kernel_rfl)) (fun _ _ _ h => h) (Or.inl ⟨by rfl, ?_⟩) ?_ ?_
       rotate_left
       · intro w'; go_simp; with_reducible rfl
       rotate_left
       · simp only [Act.put, LsA, LsZ, LsS, i64_w, i32_w]; rfl
       refine pure_ (i := 53) (N := some 122) (v := ?_) (a' := ?_) (bB 18014398509481983) rfl rfl (any_of HT_.out (by kernel_rfl)) (fun _ _ _ h => h) (Or.inl ⟨by rfl, ?_⟩) ?_ ?_
       rotate_left
       · intro w'; go_simp; with_reducible rfl
       rotate_left
       · simp only [Act.put, LsA, LsZ, LsS, i64_w, i32_w]; rfl
       refine take_ (i := 54) (N := some 123) (v := ?_) (a' := ?_) (bB 36028797018963967) rfl rfl (take_ofW HT_.out HW_.out (by kernel_rfl)) (fun _ _ _ h => h) (Or.inl ⟨by rfl, ?_⟩) hHeld ?_ ?_
       rotate_left
       ·
        rintro w' hw
        have y3 := (hw.cell (World.block_lt_of_cell? wr _ hx3)).trans hx3; go_simp; with_reducible rfl
       rotate_left
       · simp only [Act.put, LsA, LsZ, LsS, i64_w, i32_w]; rfl
       refine one_ (i := 55) (N := some 124) (bB 72057594037927935) rfl rfl (one_of HT_.out (by kernel_rfl)) (by decide) (fun K hK => ?_)
       refine goes_ Tryz.func29 (by kernel_rfl) rfl #[.slice B ts.length cb, .slice A3 sc.length c3] (by rfl) rfl rfl (by (try simp only [List.map_toArray, List.map_cons, List.map_nil]); first | done | rfl) ?_
       refine (belfryref04_Fits.calls k B cb ts A3 c3 sc false _ (Kd.C_below (Kd.C_below HA.out HB.out) hHeld) hac (Kd.C_below HG3.out hHeld) l3 HFI.out).mono ?_
       rintro e w3 ⟨rfl, hd2⟩
       refine ⟨_, rfl, ?_⟩
       refine hK.out _ _ (below_step hHeld hd2) (fun hHeld => ?_)
       clear hK K hd2
       refine norm_ (a' := ?_) ?_ ?_
       rotate_left
       ·
        show Act.put _ (some 124) _ = _
        simp only [Act.put, LsA, LsZ, LsS, i64_w, i32_w]; rfl
       refine pure_ (i := 56) (N := some 125) (v := ?_) (a' := ?_) (bB 144115188075855871) rfl rfl (any_of HT_.out (by kernel_rfl)) (fun _ _ _ h => h) (Or.inl ⟨by rfl, ?_⟩) ?_ ?_
       rotate_left
       · intro w'; go_simp; with_reducible rfl
       rotate_left
       · simp only [Act.put, LsA, LsZ, LsS, i64_w, i32_w]; rfl
       refine done_ (done_of HT_.out (by kernel_rfl)) ?_
       go_wp2
       go_meet
       case rel => exact ⟨rfl, ⟨hHeld⟩⟩
      replace cq := Bool.eq_false_iff.2 cq
      refine start_ (n := 57) (S := fun w' => Below wr.heap.size wr w') (ds := []) (bB 0) (by kernel_rfl) rfl rfl (below_drew1 (Below.refl _ _)) (fun hHeld => ?_)
      refine with_tabW belfrylaw11_PolicyDenies.tab12 belfrylaw11_PolicyDenies.bits12 (fun HT_ HW_ => ?_)
      generalize wr.drew = W0 at hHeld ⊢
      refine pure_ (i := 0) (N := some 69) (v := ?_) (a' := ?_) (bB 1) rfl rfl (any_of HT_.out (by kernel_rfl)) (fun _ _ _ h => h) (Or.inl ⟨by rfl, ?_⟩) ?_ ?_
      rotate_left
      · intro w'; go_simp; with_reducible rfl
      rotate_left
      · simp only [Act.put, LsA, LsZ, LsS, i64_w, i32_w]; rfl
      refine pure_ (i := 1) (N := some 70) (v := ?_) (a' := ?_) (bB 3) rfl rfl (any_of HT_.out (by kernel_rfl)) (fun _ _ _ h => h) (Or.inl ⟨by rfl, ?_⟩) ?_ ?_
      rotate_left
      · intro w'; go_simp; with_reducible rfl
      rotate_left
      · simp only [Act.put, LsA, LsZ, LsS, i64_w, i32_w]; rfl
      refine pure_ (i := 2) (N := some 71) (v := ?_) (a' := ?_) (bB 7) rfl rfl (any_of HT_.out (by kernel_rfl)) (fun _ _ _ h => h) (Or.inl ⟨by rfl, ?_⟩) ?_ ?_
      rotate_left
      · intro w'; go_simp; with_reducible rfl
      rotate_left
      · simp only [Act.put, LsA, LsZ, LsS, i64_w, i32_w]; rfl
      refine take_ (i := 3) (N := some 72) (v := ?_) (a' := ?_) (bB 15) rfl rfl (take_ofW HT_.out HW_.out (by kernel_rfl)) (fun _ _ _ h => h) (Or.inl ⟨by rfl, ?_⟩) hHeld ?_ ?_
      rotate_left
      ·
       rintro w' hw
       have y0 := (hw.cell (World.block_lt_of_cell? wr _ hx0)).trans hx0; have y1 := (hw.cell (World.block_lt_of_cell? wr _ hx1)).trans hx1; have y2 := (hw.cell (World.block_lt_of_cell? wr _ hx2)).trans hx2; have y3 := (hw.cell (World.block_lt_of_cell? wr _ hx3)).trans hx3; have y4 := (hw.cell (World.block_lt_of_cell? wr _ hx4)).trans hx4; go_simp; with_reducible rfl
      rotate_left
      · simp only [Act.put, LsA, LsZ, LsS, i64_w, i32_w]; rfl
      refine one_ (i := 4) (N := some 73) (bB 31) rfl rfl (one_of HT_.out (by kernel_rfl)) (by decide) (fun K hK => ?_)
      refine goes_ Tryz.func23 (by kernel_rfl) rfl #[.agg #[.bool true, .int .i64 kx, .string tn, .slice A3 sc.length c3, .slice A4 hd.length c4]] (by rfl) rfl rfl (by (try simp only [List.map_toArray, List.map_cons, List.map_nil]); first | done | rfl) ?_
      refine (belfryref11_Right.calls k true kx tn A3 c3 sc A4 c4 hd 0 _ (Kd.C_below HG3.out hHeld) l3 (Kd.C_below HG4.out hHeld) l4 HRI.out).mono ?_
      rintro e w2 ⟨rfl, hd2⟩
      refine ⟨_, rfl, ?_⟩
      refine hK.out _ _ (below_step hHeld hd2) (fun hHeld => ?_)
      clear hK K hd2
      refine norm_ (a' := ?_) ?_ ?_
      rotate_left
      ·
       show Act.put _ (some 73) _ = _
       simp only [Act.put, LsA, LsZ, LsS, i64_w, i32_w]; rfl
      refine pure_ (i := 5) (N := some 74) (v := ?_) (a' := ?_) (bB 63) rfl rfl (any_of HT_.out (by kernel_rfl)) (fun _ _ _ h => h) (Or.inl ⟨by rfl, ?_⟩) ?_ ?_
      rotate_left
      · intro w'; go_simp; with_reducible rfl
      rotate_left
      · simp only [Act.put, LsA, LsZ, LsS, i64_w, i32_w]; rfl
      refine pure_ (i := 6) (N := some 75) (v := ?_) (a' := ?_) (bB 127) rfl rfl (any_of HT_.out (by kernel_rfl)) (fun _ _ _ h => h) (Or.inl ⟨by rfl, ?_⟩) ?_ ?_
      rotate_left
      · intro w'; go_simp; with_reducible rfl
      rotate_left
      · simp only [Act.put, LsA, LsZ, LsS, i64_w, i32_w]; rfl
      refine pure_ (i := 7) (N := some 76) (v := ?_) (a' := ?_) (bB 255) rfl rfl (any_of HT_.out (by kernel_rfl)) (fun _ _ _ h => h) (Or.inl ⟨by rfl, ?_⟩) ?_ ?_
      rotate_left
      · intro w'; go_simp; with_reducible rfl
      rotate_left
      · simp only [Act.put, LsA, LsZ, LsS, i64_w, i32_w]; rfl
      refine pure_ (i := 8) (N := some 77) (v := ?_) (a' := ?_) (bB 511) rfl rfl (any_of HT_.out (by kernel_rfl)) (fun _ _ _ h => h) (Or.inl ⟨by rfl, ?_⟩) ?_ ?_
      rotate_left
      · intro w'; go_simp; with_reducible rfl
      rotate_left
      · simp only [Act.put, LsA, LsZ, LsS, i64_w, i32_w]; rfl
      refine pure_ (i := 9) (N := some 78) (v := ?_) (a' := ?_) (bB 1023) rfl rfl (any_of HT_.out (by kernel_rfl)) (fun _ _ _ h => h) (Or.inl ⟨by rfl, ?_⟩) ?_ ?_
      rotate_left
      · intro w'; go_simp; with_reducible rfl
      rotate_left
      · simp only [Act.put, LsA, LsZ, LsS, i64_w, i32_w]; rfl
      refine pure_ (i := 10) (N := some 79) (v := ?_) (a' := ?_) (bB 2047) rfl rfl (any_of HT_.out (by kernel_rfl)) (fun _ _ _ h => h) (Or.inl ⟨by rfl, ?_⟩) ?_ ?_
      rotate_left
      · intro w'; go_simp; with_reducible rfl
      rotate_left
      · simp only [Act.put, LsA, LsZ, LsS, i64_w, i32_w]; rfl
      refine take_ (i := 11) (N := some 80) (v := ?_) (a' := ?_) (bB 4095) rfl rfl (take_ofW HT_.out HW_.out (by kernel_rfl)) (fun _ _ _ h => h) (Or.inl ⟨by rfl, ?_⟩) hHeld ?_ ?_
      rotate_left
      ·
       rintro w' hw
       have y0 := (hw.cell (World.block_lt_of_cell? wr _ hx0)).trans hx0; go_simp; with_reducible rfl
      rotate_left
      · simp only [Act.put, LsA, LsZ, LsS, i64_w, i32_w]; rfl
      refine pure_ (i := 12) (N := some 81) (v := ?_) (a' := ?_) (bB 8191) rfl rfl (any_of HT_.out (by kernel_rfl)) (fun _ _ _ h => h) (Or.inl ⟨by rfl, ?_⟩) ?_ ?_
      rotate_left
      · intro w'; go_simp; with_reducible rfl
      rotate_left
      · simp only [Act.put, LsA, LsZ, LsS, i64_w, i32_w]; rfl
      refine pure_ (i := 13) (N := some 82) (v := ?_) (a' := ?_) (bB 16383) rfl rfl (any_of HT_.out (by kernel_rfl)) (fun _ _ _ h => h) (Or.inl ⟨by rfl, ?_⟩) ?_ ?_
      rotate_left
      · intro w'; go_simp; with_reducible rfl
      rotate_left
      · simp only [Act.put, LsA, LsZ, LsS, i64_w, i32_w]; rfl
      refine pure_ (i := 14) (N := some 83) (v := ?_) (a' := ?_) (bB 32767) rfl rfl (any_of HT_.out (by kernel_rfl)) (fun _ _ _ h => h) (Or.inl ⟨by rfl, ?_⟩) ?_ ?_
      rotate_left
      · intro w'; go_simp; with_reducible rfl
      rotate_left
      · simp only [Act.put, LsA, LsZ, LsS, i64_w, i32_w]; rfl
      refine pure_ (i := 15) (N := some 84) (v := ?_) (a' := ?_) (bB 65535) rfl rfl (any_of HT_.out (by kernel_rfl)) (fun _ _ _ h => h) (Or.inl ⟨by rfl, ?_⟩) ?_ ?_
      rotate_left
      · intro w'; go_simp; with_reducible rfl
      rotate_left
      · simp only [Act.put, LsA, LsZ, LsS, i64_w, i32_w]; rfl
      refine pure_ (i := 16) (N := some 85) (v := ?_) (a' := ?_) (bB 131071) rfl rfl (any_of HT_.out (by kernel_rfl)) (fun _ _ _ h => h) (Or.inl ⟨by rfl, ?_⟩) ?_ ?_
      rotate_left
      · intro w'; go_simp; with_reducible rfl
      rotate_left
      · simp only [Act.put, LsA, LsZ, LsS, i64_w, i32_w]; rfl
      refine pure_ (i := 17) (N := some 86) (v := ?_) (a' := ?_) (bB 262143) rfl rfl (any_of HT_.out (by kernel_rfl)) (fun _ _ _ h => h) (Or.inl ⟨by rfl, ?_⟩) ?_ ?_
      rotate_left
      · intro w'; go_simp; with_reducible rfl
      rotate_left
      · simp only [Act.put, LsA, LsZ, LsS, i64_w, i32_w]; rfl
      refine take_ (i := 18) (N := some 87) (v := ?_) (a' := ?_) (bB 524287) rfl rfl (take_ofW HT_.out HW_.out (by kernel_rfl)) (fun _ _ _ h => h) (Or.inl ⟨by rfl, ?_⟩) hHeld ?_ ?_
      rotate_left
      ·
       rintro w' hw
       have y2 := (hw.cell (World.block_lt_of_cell? wr _ hx2)).trans hx2; go_simp; with_reducible rfl
      rotate_left
      · simp only [Act.put, LsA, LsZ, LsS, i64_w, i32_w]; rfl
      refine pure_ (i := 19) (N := some 88) (v := ?_) (a' := ?_) (bB 1048575) rfl rfl (any_of HT_.out (by kernel_rfl)) (fun _ _ _ h => h) (Or.inl ⟨by rfl, ?_⟩) ?_ ?_
      rotate_left
      · intro w'; go_simp; with_reducible rfl
      rotate_left
      · simp only [Act.put, LsA, LsZ, LsS, i64_w, i32_w]; rfl
      refine pure_ (i := 20) (N := some 89) (v := ?_) (a' := ?_) (bB 2097151) rfl rfl (any_of HT_.out (by kernel_rfl)) (fun _ _ _ h => h) (Or.inl ⟨by rfl, ?_⟩) ?_ ?_
      rotate_left
      · intro w'; go_simp; with_reducible rfl
      rotate_left
      · simp only [Act.put, LsA, LsZ, LsS, i64_w, i32_w]; rfl
      refine pure_ (i := 21) (N := some 90) (v := ?_) (a' := ?_) (bB 4194303) rfl rfl (any_of HT_.out (by kernel_rfl)) (fun _ _ _ h => h) (Or.inl ⟨by rfl, ?_⟩) ?_ ?_
      rotate_left
      · intro w'; go_simp; with_reducible rfl
      rotate_left
      · simp only [Act.put, LsA, LsZ, LsS, i64_w, i32_w]; rfl
      refine pure_ (i := 22) (N := some 91) (v := ?_) (a' := ?_) (bB 8388607) rfl rfl (any_of HT_.out (by kernel_rfl)) (fun _ _ _ h => h) (Or.inl ⟨by rfl, ?_⟩) ?_ ?_
      rotate_left
      · intro w'; go_simp; with_reducible rfl
      rotate_left
      · simp only [Act.put, LsA, LsZ, LsS, i64_w, i32_w]; rfl
      refine pure_ (i := 23) (N := some 92) (v := ?_) (a' := ?_) (bB 16777215) rfl rfl (any_of HT_.out (by kernel_rfl)) (fun _ _ _ h => h) (Or.inl ⟨by rfl, ?_⟩) ?_ ?_
      rotate_left
      · intro w'; go_simp; with_reducible rfl
      rotate_left
      · simp only [Act.put, LsA, LsZ, LsS, i64_w, i32_w]; rfl
      refine pure_ (i := 24) (N := some 93) (v := ?_) (a' := ?_) (bB 33554431) rfl rfl (any_of HT_.out (by kernel_rfl)) (fun _ _ _ h => h) (Or.inl ⟨by rfl, ?_⟩) ?_ ?_
      rotate_left
      · intro w'; go_simp; with_reducible rfl
      rotate_left
      · simp only [Act.put, LsA, LsZ, LsS, i64_w, i32_w]; rfl
      refine take_ (i := 25) (N := some 94) (v := ?_) (a' := ?_) (bB 67108863) rfl rfl (take_ofW HT_.out HW_.out (by kernel_rfl)) (fun _ _ _ h => h) (Or.inl ⟨by rfl, ?_⟩) hHeld ?_ ?_
      rotate_left
      ·
       rintro w' hw
       have y2 := (hw.cell (World.block_lt_of_cell? wr _ hx2)).trans hx2; go_simp; with_reducible rfl
      rotate_left
      · simp only [Act.put, LsA, LsZ, LsS, i64_w, i32_w]; rfl
      refine pure_ (i := 26) (N := some 95) (v := ?_) (a' := ?_) (bB 134217727) rfl rfl (any_of HT_.out (by kernel_rfl)) (fun _ _ _ h => h) (Or.inl ⟨by rfl, ?_⟩) ?_ ?_
      rotate_left
      · intro w'; go_simp; with_reducible rfl
      rotate_left
      · simp only [Act.put, LsA, LsZ, LsS, i64_w, i32_w]; rfl
      refine pure_ (i := 27) (N := some 96) (v := ?_) (a' := ?_) (bB 268435455) rfl rfl (any_of HT_.out (by kernel_rfl)) (fun _ _ _ h => h) (Or.inl ⟨by rfl, ?_⟩) ?_ ?_
      rotate_left
      · intro w'; go_simp; with_reducible rfl
      rotate_left
      · simp only [Act.put, LsA, LsZ, LsS, i64_w, i32_w]; rfl
      refine pure_ (i := 28) (N := some 97) (v := ?_) (a' := ?_) (bB 536870911) rfl rfl (any_of HT_.out (by kernel_rfl)) (fun _ _ _ h => h) (Or.inl ⟨by rfl, ?_⟩) ?_ ?_
      rotate_left
      · intro w'; go_simp; with_reducible rfl
      rotate_left
      · simp only [Act.put, LsA, LsZ, LsS, i64_w, i32_w]; rfl
      refine pure_ (i := 29) (N := some 98) (v := ?_) (a' := ?_) (bB 1073741823) rfl rfl (any_of HT_.out (by kernel_rfl)) (fun _ _ _ h => h) (Or.inl ⟨by rfl, ?_⟩) ?_ ?_
      rotate_left
      · intro w'; go_simp; with_reducible rfl
      rotate_left
      · simp only [Act.put, LsA, LsZ, LsS, i64_w, i32_w]; rfl
      refine pure_ (i := 30) (N := some 99) (v := ?_) (a' := ?_) (bB 2147483647) rfl rfl (any_of HT_.out (by kernel_rfl)) (fun _ _ _ h => h) (Or.inl ⟨by rfl, ?_⟩) ?_ ?_
      rotate_left
      · intro w'; go_simp; with_reducible rfl
      rotate_left
      · simp only [Act.put, LsA, LsZ, LsS, i64_w, i32_w]; rfl
      refine pure_ (i := 31) (N := some 100) (v := ?_) (a' := ?_) (bB 4294967295) rfl rfl (any_of HT_.out (by kernel_rfl)) (fun _ _ _ h => h) (Or.inl ⟨by rfl, ?_⟩) ?_ ?_
      rotate_left
      · intro w'; go_simp; with_reducible rfl
      rotate_left
      · simp only [Act.put, LsA, LsZ, LsS, i64_w, i32_w]; rfl
      refine pure_ (i := 32) (N := some 101) (v := ?_) (a' := ?_) (bB 8589934591) rfl rfl (any_of HT_.out (by kernel_rfl)) (fun _ _ _ h => h) (Or.inl ⟨by rfl, ?_⟩) ?_ ?_
      rotate_left
      · intro w'; go_simp; with_reducible rfl
      rotate_left
      · simp only [Act.put, LsA, LsZ, LsS, i64_w, i32_w]; rfl
      refine pure_ (i := 33) (N := some 102) (v := ?_) (a' := ?_) (bB 17179869183) rfl rfl (any_of HT_.out (by kernel_rfl)) (fun _ _ _ h => h) (Or.inl ⟨by rfl, ?_⟩) ?_ ?_
      rotate_left
      · intro w'; go_simp; with_reducible rfl
      rotate_left
      · simp only [Act.put, LsA, LsZ, LsS, i64_w, i32_w]; rfl
      refine pure_ (i := 34) (N := some 103) (v := ?_) (a' := ?_) (bB 34359738367) rfl rfl (any_of HT_.out (by kernel_rfl)) (fun _ _ _ h => h) (Or.inl ⟨by rfl, ?_⟩) ?_ ?_
      rotate_left
      · intro w'; go_simp; with_reducible rfl
      rotate_left
      · simp only [Act.put, LsA, LsZ, LsS, i64_w, i32_w]; rfl
      refine take_ (i := 35) (N := some 104) (v := ?_) (a' := ?_) (bB 68719476735) rfl rfl (take_ofW HT_.out HW_.out (by kernel_rfl)) (fun _ _ _ h => h) (Or.inl ⟨by rfl, ?_⟩) hHeld ?_ ?_
      rotate_left
      ·
       rintro w' hw
       have y1 := (hw.cell (World.block_lt_of_cell? wr _ hx1)).trans hx1; go_simp; with_reducible rfl
      rotate_left
      · simp only [Act.put, LsA, LsZ, LsS, i64_w, i32_w]; rfl
      refine pure_ (i := 36) (N := some 105) (v := ?_) (a' := ?_) (bB 137438953471) rfl rfl (any_of HT_.out (by kernel_rfl)) (fun _ _ _ h => h) (Or.inl ⟨by rfl, ?_⟩) ?_ ?_
      rotate_left
      · intro w'; go_simp; with_reducible rfl
      rotate_left
      · simp only [Act.put, LsA, LsZ, LsS, i64_w, i32_w]; rfl
      refine pure_ (i := 37) (N := some 106) (v := ?_) (a' := ?_) (bB 274877906943) rfl rfl (any_of HT_.out (by kernel_rfl)) (fun _ _ _ h => h) (Or.inl ⟨by rfl, ?_⟩) ?_ ?_
      rotate_left
      · intro w'; go_simp; with_reducible rfl
      rotate_left
      · simp only [Act.put, LsA, LsZ, LsS, i64_w, i32_w]; rfl
      refine pure_ (i := 38) (N := some 107) (v := ?_) (a' := ?_) (bB 549755813887) rfl rfl (any_of HT_.out (by kernel_rfl)) (fun _ _ _ h => h) (Or.inl ⟨by rfl, ?_⟩) ?_ ?_
      rotate_left
      · intro w'; go_simp; with_reducible rfl
      rotate_left
      · simp only [Act.put, LsA, LsZ, LsS, i64_w, i32_w]; rfl
      refine pure_ (i := 39) (N := some 108) (v := ?_) (a' := ?_) (bB 1099511627775) rfl rfl (any_of HT_.out (by kernel_rfl)) (fun _ _ _ h => h) (Or.inl ⟨by rfl, ?_⟩) ?_ ?_
      rotate_left
      · intro w'; go_simp; with_reducible rfl
      rotate_left
      · simp only [Act.put, LsA, LsZ, LsS, i64_w, i32_w]; rfl
      refine pure_ (i := 40) (N := some 109) (v := ?_) (a' := ?_) (bB 2199023255551) rfl rfl (any_of HT_.out (by kernel_rfl)) (fun _ _ _ h => h) (Or.inl ⟨by rfl, ?_⟩) ?_ ?_
      rotate_left
      · intro w'; go_simp; with_reducible rfl
      rotate_left
      · simp only [Act.put, LsA, LsZ, LsS, i64_w, i32_w]; rfl
      refine pure_ (i := 41) (N := some 110) (v := ?_) (a' := ?_) (bB 4398046511103) rfl rfl (any_of HT_.out (by kernel_rfl)) (fun _ _ _ h => h) (Or.inl ⟨by rfl, ?_⟩) ?_ ?_
      rotate_left
      · intro w'; go_simp; with_reducible rfl
      rotate_left
      · simp only [Act.put, LsA, LsZ, LsS, i64_w, i32_w]; rfl
      refine take_ (i := 42) (N := some 111) (v := ?_) (a' := ?_) (bB 8796093022207) rfl rfl (take_ofW HT_.out HW_.out (by kernel_rfl)) (fun _ _ _ h => h) (Or.inl ⟨by rfl, ?_⟩) hHeld ?_ ?_
      rotate_left
      ·
       rintro w' hw
       have y1 := (hw.cell (World.block_lt_of_cell? wr _ hx1)).trans hx1; go_simp; with_reducible rfl
      rotate_left
      · simp only [Act.put, LsA, LsZ, LsS, i64_w, i32_w]; rfl
      refine pure_ (i := 43) (N := some 112) (v := ?_) (a' := ?_) (bB 17592186044415) rfl rfl (any_of HT_.out (by kernel_rfl)) (fun _ _ _ h => h) (Or.inl ⟨by rfl, ?_⟩) ?_ ?_
      rotate_left
      · intro w'; go_simp; with_reducible rfl
      rotate_left
      · simp only [Act.put, LsA, LsZ, LsS, i64_w, i32_w]; rfl
      refine pure_ (i := 44) (N := some 113) (v := ?_) (a' := ?_) (bB 35184372088831) rfl rfl (any_of HT_.out (by kernel_rfl)) (fun _ _ _ h => h) (Or.inl ⟨by rfl, ?_⟩) ?_ ?_
      rotate_left
      · intro w'; go_simp; with_reducible rfl
      rotate_left
      · simp only [Act.put, LsA, LsZ, LsS, i64_w, i32_w]; rfl
      refine pure_ (i := 45) (N := some 114) (v := ?_) (a' := ?_) (bB 70368744177663) rfl rfl (any_of HT_.out (by kernel_rfl)) (fun _ _ _ h => h) (Or.inl ⟨by rfl, ?_⟩) ?_ ?_
      rotate_left
      · intro w'; go_simp; with_reducible rfl
      rotate_left
      · simp only [Act.put, LsA, LsZ, LsS, i64_w, i32_w]; rfl
      refine pure_ (i := 46) (N := some 115) (v := ?_) (a' := ?_) (bB 140737488355327) rfl rfl (any_of HT_.out (by kernel_rfl)) (fun _ _ _ h => h) (Or.inl ⟨by rfl, ?_⟩) ?_ ?_
      rotate_left
      · intro w'; go_simp; with_reducible rfl
      rotate_left
      · simp only [Act.put, LsA, LsZ, LsS, i64_w, i32_w]; rfl
      refine pure_ (i := 47) (N := some 116) (v := ?_) (a' := ?_) (bB 281474976710655) rfl rfl (any_of HT_.out (by kernel_rfl)) (fun _ _ _ h => h) (Or.inl ⟨by rfl, ?_⟩) ?_ ?_
      rotate_left
      · intro w'; go_simp; with_reducible rfl
      rotate_left
      · simp only [Act.put, LsA, LsZ, LsS, i64_w, i32_w]; rfl
      refine pure_ (i := 48) (N := some 117) (v := undef) (a' := ?_) (bB 562949953421311) rfl rfl (any_of HT_.out (by kernel_rfl)) (fun _ _ _ h => h) (Or.inr ⟨by rfl, rfl⟩) ?_ ?_
      rotate_left
      · simp only [Act.put, LsA, LsZ, LsS, i64_w, i32_w]; rfl
      refine pure_ (i := 49) (N := some 118) (v := undef) (a' := ?_) (bB 1125899906842623) rfl rfl (any_of HT_.out (by kernel_rfl)) (fun _ _ _ h => h) (Or.inr ⟨by rfl, rfl⟩) ?_ ?_
      rotate_left
      · simp only [Act.put, LsA, LsZ, LsS, i64_w, i32_w]; rfl
      refine pure_ (i := 50) (N := some 119) (v := undef) (a' := ?_) (bB 2251799813685247) rfl rfl (any_of HT_.out (by kernel_rfl)) (fun _ _ _ h => h) (Or.inr ⟨by rfl, rfl⟩) ?_ ?_
      rotate_left
      · simp only [Act.put, LsA, LsZ, LsS, i64_w, i32_w]; rfl
      refine pure_ (i := 51) (N := some 120) (v := undef) (a' := ?_) (bB 4503599627370495) rfl rfl (any_of HT_.out (by kernel_rfl)) (fun _ _ _ h => h) (Or.inr ⟨by rfl, rfl⟩) ?_ ?_
      rotate_left
      · simp only [Act.put, LsA, LsZ, LsS, i64_w, i32_w]; rfl
      refine pure_ (i := 52) (N := some 121) (v := undef) (a' := ?_) (bB 9007199254740991) rfl rfl (any_of HT_.out (by kernel_rfl)) (fun _ _ _ h => h) (Or.inr ⟨by rfl, rfl⟩) ?_ ?_
      rotate_left
      · simp only [Act.put, LsA, LsZ, LsS, i64_w, i32_w]; rfl
      refine pure_ (i := 53) (N := some 122) (v := undef) (a' := ?_) (bB 18014398509481983) rfl rfl (any_of HT_.out (by kernel_rfl)) (fun _ _ _ h => h) (Or.inr ⟨by rfl, rfl⟩) ?_ ?_
      rotate_left
      · simp only [Act.put, LsA, LsZ, LsS, i64_w, i32_w]; rfl
      refine pure_ (i := 54) (N := some 123) (v := undef) (a' := ?_) (bB 36028797018963967) rfl rfl (any_of HT_.out (by kernel_rfl)) (fun _ _ _ h => h) (Or.inr ⟨by rfl, rfl⟩) ?_ ?_
      rotate_left
      · simp only [Act.put, LsA, LsZ, LsS, i64_w, i32_w]; rfl
      refine pure_ (i := 55) (N := some 124) (v := undef) (a' := ?_) (bB 72057594037927935) rfl rfl (any_of HT_.out (by kernel_rfl)) (fun _ _ _ h => h) (Or.inr ⟨by rfl, rfl⟩) ?_ ?_
      rotate_left
      · simp only [Act.put, LsA, LsZ, LsS, i64_w, i32_w]; rfl
      refine pure_ (i := 56) (N := some 125) (v := ?_) (a' := ?_) (bB 144115188075855871) rfl rfl (any_of HT_.out (by kernel_rfl)) (fun _ _ _ h => h) (Or.inl ⟨by rfl, ?_⟩) ?_ ?_
      rotate_left
      · intro w'; go_simp; with_reducible rfl
      rotate_left
      · simp only [Act.put, LsA, LsZ, LsS, i64_w, i32_w]; rfl
      refine done_ (done_of HT_.out (by kernel_rfl)) ?_
      go_wp2
      go_meet
      case rel => exact ⟨rfl, ⟨hHeld⟩⟩
     replace ct := Bool.eq_false_iff.2 ct
     refine start_ (n := 57) (S := fun w' => Below wr.heap.size wr w') (ds := []) (bB 0) (by kernel_rfl) rfl rfl (below_drew1 (Below.refl _ _)) (fun hHeld => ?_)
     refine with_tabW belfrylaw11_PolicyDenies.tab12 belfrylaw11_PolicyDenies.bits12 (fun HT_ HW_ => ?_)
     generalize wr.drew = W0 at hHeld ⊢
     refine pure_ (i := 0) (N := some 69) (v := ?_) (a' := ?_) (bB 1) rfl rfl (any_of HT_.out (by kernel_rfl)) (fun _ _ _ h => h) (Or.inl ⟨by rfl, ?_⟩) ?_ ?_
     rotate_left
     · intro w'; go_simp; with_reducible rfl
     rotate_left
     · simp only [Act.put, LsA, LsZ, LsS, i64_w, i32_w]; rfl
     refine pure_ (i := 1) (N := some 70) (v := ?_) (a' := ?_) (bB 3) rfl rfl (any_of HT_.out (by kernel_rfl)) (fun _ _ _ h => h) (Or.inl ⟨by rfl, ?_⟩) ?_ ?_
     rotate_left
     · intro w'; go_simp; with_reducible rfl
     rotate_left
     · simp only [Act.put, LsA, LsZ, LsS, i64_w, i32_w]; rfl
     refine pure_ (i := 2) (N := some 71) (v := ?_) (a' := ?_) (bB 7) rfl rfl (any_of HT_.out (by kernel_rfl)) (fun _ _ _ h => h) (Or.inl ⟨by rfl, ?_⟩) ?_ ?_
     rotate_left
     · intro w'; go_simp; with_reducible rfl
     rotate_left
     · simp only [Act.put, LsA, LsZ, LsS, i64_w, i32_w]; rfl
     refine take_ (i := 3) (N := some 72) (v := ?_) (a' := ?_) (bB 15) rfl rfl (take_ofW HT_.out HW_.out (by kernel_rfl)) (fun _ _ _ h => h) (Or.inl ⟨by rfl, ?_⟩) hHeld ?_ ?_
     rotate_left
     ·
      rintro w' hw
      have y0 := (hw.cell (World.block_lt_of_cell? wr _ hx0)).trans hx0; have y1 := (hw.cell (World.block_lt_of_cell? wr _ hx1)).trans hx1; have y2 := (hw.cell (World.block_lt_of_cell? wr _ hx2)).trans hx2; have y3 := (hw.cell (World.block_lt_of_cell? wr _ hx3)).trans hx3; have y4 := (hw.cell (World.block_lt_of_cell? wr _ hx4)).trans hx4; go_simp; with_reducible rfl
     rotate_left
     · simp only [Act.put, LsA, LsZ, LsS, i64_w, i32_w]; rfl
     refine one_ (i := 4) (N := some 73) (bB 31) rfl rfl (one_of HT_.out (by kernel_rfl)) (by decide) (fun K hK => ?_)
     refine goes_ Tryz.func23 (by kernel_rfl) rfl #[.agg #[.bool true, .int .i64 kx, .string tn, .slice A3 sc.length c3, .slice A4 hd.length c4]] (by rfl) rfl rfl (by (try simp only [List.map_toArray, List.map_cons, List.map_nil]); first | done | rfl) ?_
     refine (belfryref11_Right.calls k true kx tn A3 c3 sc A4 c4 hd 0 _ (Kd.C_below HG3.out hHeld) l3 (Kd.C_below HG4.out hHeld) l4 HRI.out).mono ?_
     rintro e w2 ⟨rfl, hd2⟩
     refine ⟨_, rfl, ?_⟩
     refine hK.out _ _ (below_step hHeld hd2) (fun hHeld => ?_)
     clear hK K hd2
     refine norm_ (a' := ?_) ?_ ?_
     rotate_left
     ·
      show Act.put _ (some 73) _ = _
      simp only [Act.put, LsA, LsZ, LsS, i64_w, i32_w]; rfl
     refine pure_ (i := 5) (N := some 74) (v := ?_) (a' := ?_) (bB 63) rfl rfl (any_of HT_.out (by kernel_rfl)) (fun _ _ _ h => h) (Or.inl ⟨by rfl, ?_⟩) ?_ ?_
     rotate_left
     · intro w'; go_simp; with_reducible rfl
     rotate_left
     · simp only [Act.put, LsA, LsZ, LsS, i64_w, i32_w]; rfl
     refine pure_ (i := 6) (N := some 75) (v := ?_) (a' := ?_) (bB 127) rfl rfl (any_of HT_.out (by kernel_rfl)) (fun _ _ _ h => h) (Or.inl ⟨by rfl, ?_⟩) ?_ ?_
     rotate_left
     · intro w'; go_simp; with_reducible rfl
     rotate_left
     · simp only [Act.put, LsA, LsZ, LsS, i64_w, i32_w]; rfl
     refine pure_ (i := 7) (N := some 76) (v := ?_) (a' := ?_) (bB 255) rfl rfl (any_of HT_.out (by kernel_rfl)) (fun _ _ _ h => h) (Or.inl ⟨by rfl, ?_⟩) ?_ ?_
     rotate_left
     · intro w'; go_simp; with_reducible rfl
     rotate_left
     · simp only [Act.put, LsA, LsZ, LsS, i64_w, i32_w]; rfl
     refine pure_ (i := 8) (N := some 77) (v := ?_) (a' := ?_) (bB 511) rfl rfl (any_of HT_.out (by kernel_rfl)) (fun _ _ _ h => h) (Or.inl ⟨by rfl, ?_⟩) ?_ ?_
     rotate_left
     · intro w'; go_simp; with_reducible rfl
     rotate_left
     · simp only [Act.put, LsA, LsZ, LsS, i64_w, i32_w]; rfl
     refine pure_ (i := 9) (N := some 78) (v := ?_) (a' := ?_) (bB 1023) rfl rfl (any_of HT_.out (by kernel_rfl)) (fun _ _ _ h => h) (Or.inl ⟨by rfl, ?_⟩) ?_ ?_
     rotate_left
     · intro w'; go_simp; with_reducible rfl
     rotate_left
     · simp only [Act.put, LsA, LsZ, LsS, i64_w, i32_w]; rfl
     refine pure_ (i := 10) (N := some 79) (v := ?_) (a' := ?_) (bB 2047) rfl rfl (any_of HT_.out (by kernel_rfl)) (fun _ _ _ h => h) (Or.inl ⟨by rfl, ?_⟩) ?_ ?_
     rotate_left
     · intro w'; go_simp; with_reducible rfl
     rotate_left
     · simp only [Act.put, LsA, LsZ, LsS, i64_w, i32_w]; rfl
     refine take_ (i := 11) (N := some 80) (v := ?_) (a' := ?_) (bB 4095) rfl rfl (take_ofW HT_.out HW_.out (by kernel_rfl)) (fun _ _ _ h => h) (Or.inl ⟨by rfl, ?_⟩) hHeld ?_ ?_
     rotate_left
     ·
      rintro w' hw
      have y0 := (hw.cell (World.block_lt_of_cell? wr _ hx0)).trans hx0; go_simp; with_reducible rfl
     rotate_left
     · simp only [Act.put, LsA, LsZ, LsS, i64_w, i32_w]; rfl
     refine pure_ (i := 12) (N := some 81) (v := ?_) (a' := ?_) (bB 8191) rfl rfl (any_of HT_.out (by kernel_rfl)) (fun _ _ _ h => h) (Or.inl ⟨by rfl, ?_⟩) ?_ ?_
     rotate_left
     · intro w'; go_simp; with_reducible rfl
     rotate_left
     · simp only [Act.put, LsA, LsZ, LsS, i64_w, i32_w]; rfl
     refine pure_ (i := 13) (N := some 82) (v := ?_) (a' := ?_) (bB 16383) rfl rfl (any_of HT_.out (by kernel_rfl)) (fun _ _ _ h => h) (Or.inl ⟨by rfl, ?_⟩) ?_ ?_
     rotate_left
     · intro w'; go_simp; with_reducible rfl
     rotate_left
     · simp only [Act.put, LsA, LsZ, LsS, i64_w, i32_w]; rfl
     refine pure_ (i := 14) (N := some 83) (v := ?_) (a' := ?_) (bB 32767) rfl rfl (any_of HT_.out (by kernel_rfl)) (fun _ _ _ h => h) (Or.inl ⟨by rfl, ?_⟩) ?_ ?_
     rotate_left
     · intro w'; go_simp; with_reducible rfl
     rotate_left
     · simp only [Act.put, LsA, LsZ, LsS, i64_w, i32_w]; rfl
     refine pure_ (i := 15) (N := some 84) (v := ?_) (a' := ?_) (bB 65535) rfl rfl (any_of HT_.out (by kernel_rfl)) (fun _ _ _ h => h) (Or.inl ⟨by rfl, ?_⟩) ?_ ?_
     rotate_left
     · intro w'; go_simp; with_reducible rfl
     rotate_left
     · simp only [Act.put, LsA, LsZ, LsS, i64_w, i32_w]; rfl
     refine pure_ (i := 16) (N := some 85) (v := ?_) (a' := ?_) (bB 131071) rfl rfl (any_of HT_.out (by kernel_rfl)) (fun _ _ _ h => h) (Or.inl ⟨by rfl, ?_⟩) ?_ ?_
     rotate_left
     · intro w'; go_simp; with_reducible rfl
     rotate_left
     · simp only [Act.put, LsA, LsZ, LsS, i64_w, i32_w]; rfl
     refine pure_ (i := 17) (N := some 86) (v := ?_) (a' := ?_) (bB 262143) rfl rfl (any_of HT_.out (by kernel_rfl)) (fun _ _ _ h => h) (Or.inl ⟨by rfl, ?_⟩) ?_ ?_
     rotate_left
     · intro w'; go_simp; with_reducible rfl
     rotate_left
     · simp only [Act.put, LsA, LsZ, LsS, i64_w, i32_w]; rfl
     refine take_ (i := 18) (N := some 87) (v := ?_) (a' := ?_) (bB 524287) rfl rfl (take_ofW HT_.out HW_.out (by kernel_rfl)) (fun _ _ _ h => h) (Or.inl ⟨by rfl, ?_⟩) hHeld ?_ ?_
     rotate_left
     ·
      rintro w' hw
      have y2 := (hw.cell (World.block_lt_of_cell? wr _ hx2)).trans hx2; go_simp; with_reducible rfl
     rotate_left
     · simp only [Act.put, LsA, LsZ, LsS, i64_w, i32_w]; rfl
     refine pure_ (i := 19) (N := some 88) (v := ?_) (a' := ?_) (bB 1048575) rfl rfl (any_of HT_.out (by kernel_rfl)) (fun _ _ _ h => h) (Or.inl ⟨by rfl, ?_⟩) ?_ ?_
     rotate_left
     · intro w'; go_simp; with_reducible rfl
     rotate_left
     · simp only [Act.put, LsA, LsZ, LsS, i64_w, i32_w]; rfl
     refine pure_ (i := 20) (N := some 89) (v := ?_) (a' := ?_) (bB 2097151) rfl rfl (any_of HT_.out (by kernel_rfl)) (fun _ _ _ h => h) (Or.inl ⟨by rfl, ?_⟩) ?_ ?_
     rotate_left
     · intro w'; go_simp; with_reducible rfl
     rotate_left
     · simp only [Act.put, LsA, LsZ, LsS, i64_w, i32_w]; rfl
     refine pure_ (i := 21) (N := some 90) (v := ?_) (a' := ?_) (bB 4194303) rfl rfl (any_of HT_.out (by kernel_rfl)) (fun _ _ _ h => h) (Or.inl ⟨by rfl, ?_⟩) ?_ ?_
     rotate_left
     · intro w'; go_simp; with_reducible rfl
     rotate_left
     · simp only [Act.put, LsA, LsZ, LsS, i64_w, i32_w]; rfl
     refine pure_ (i := 22) (N := some 91) (v := ?_) (a' := ?_) (bB 8388607) rfl rfl (any_of HT_.out (by kernel_rfl)) (fun _ _ _ h => h) (Or.inl ⟨by rfl, ?_⟩) ?_ ?_
     rotate_left
     · intro w'; go_simp; with_reducible rfl
     rotate_left
     · simp only [Act.put, LsA, LsZ, LsS, i64_w, i32_w]; rfl
     refine pure_ (i := 23) (N := some 92) (v := ?_) (a' := ?_) (bB 16777215) rfl rfl (any_of HT_.out (by kernel_rfl)) (fun _ _ _ h => h) (Or.inl ⟨by rfl, ?_⟩) ?_ ?_
     rotate_left
     · intro w'; go_simp; with_reducible rfl
     rotate_left
     · simp only [Act.put, LsA, LsZ, LsS, i64_w, i32_w]; rfl
     refine pure_ (i := 24) (N := some 93) (v := ?_) (a' := ?_) (bB 33554431) rfl rfl (any_of HT_.out (by kernel_rfl)) (fun _ _ _ h => h) (Or.inl ⟨by rfl, ?_⟩) ?_ ?_
     rotate_left
     · intro w'; go_simp; with_reducible rfl
     rotate_left
     · simp only [Act.put, LsA, LsZ, LsS, i64_w, i32_w]; rfl
     refine take_ (i := 25) (N := some 94) (v := ?_) (a' := ?_) (bB 67108863) rfl rfl (take_ofW HT_.out HW_.out (by kernel_rfl)) (fun _ _ _ h => h) (Or.inl ⟨by rfl, ?_⟩) hHeld ?_ ?_
     rotate_left
     ·
      rintro w' hw
      have y2 := (hw.cell (World.block_lt_of_cell? wr _ hx2)).trans hx2; go_simp; with_reducible rfl
     rotate_left
     · simp only [Act.put, LsA, LsZ, LsS, i64_w, i32_w]; rfl
     refine pure_ (i := 26) (N := some 95) (v := ?_) (a' := ?_) (bB 134217727) rfl rfl (any_of HT_.out (by kernel_rfl)) (fun _ _ _ h => h) (Or.inl ⟨by rfl, ?_⟩) ?_ ?_
     rotate_left
     · intro w'; go_simp; with_reducible rfl
     rotate_left
     · simp only [Act.put, LsA, LsZ, LsS, i64_w, i32_w]; rfl
     refine pure_ (i := 27) (N := some 96) (v := ?_) (a' := ?_) (bB 268435455) rfl rfl (any_of HT_.out (by kernel_rfl)) (fun _ _ _ h => h) (Or.inl ⟨by rfl, ?_⟩) ?_ ?_
     rotate_left
     · intro w'; go_simp; with_reducible rfl
     rotate_left
     · simp only [Act.put, LsA, LsZ, LsS, i64_w, i32_w]; rfl
     refine pure_ (i := 28) (N := some 97) (v := ?_) (a' := ?_) (bB 536870911) rfl rfl (any_of HT_.out (by kernel_rfl)) (fun _ _ _ h => h) (Or.inl ⟨by rfl, ?_⟩) ?_ ?_
     rotate_left
     · intro w'; go_simp; with_reducible rfl
     rotate_left
     · simp only [Act.put, LsA, LsZ, LsS, i64_w, i32_w]; rfl
     refine pure_ (i := 29) (N := some 98) (v := ?_) (a' := ?_) (bB 1073741823) rfl rfl (any_of HT_.out (by kernel_rfl)) (fun _ _ _ h => h) (Or.inl ⟨by rfl, ?_⟩) ?_ ?_
     rotate_left
     · intro w'; go_simp; with_reducible rfl
     rotate_left
     · simp only [Act.put, LsA, LsZ, LsS, i64_w, i32_w]; rfl
     refine pure_ (i := 30) (N := some 99) (v := ?_) (a' := ?_) (bB 2147483647) rfl rfl (any_of HT_.out (by kernel_rfl)) (fun _ _ _ h => h) (Or.inl ⟨by rfl, ?_⟩) ?_ ?_
     rotate_left
     · intro w'; go_simp; with_reducible rfl
     rotate_left
     · simp only [Act.put, LsA, LsZ, LsS, i64_w, i32_w]; rfl
     refine pure_ (i := 31) (N := some 100) (v := undef) (a' := ?_) (bB 4294967295) rfl rfl (any_of HT_.out (by kernel_rfl)) (fun _ _ _ h => h) (Or.inr ⟨by rfl, rfl⟩) ?_ ?_
     rotate_left
     · simp only [Act.put, LsA, LsZ, LsS, i64_w, i32_w]; rfl
     refine pure_ (i := 32) (N := some 101) (v := undef) (a' := ?_) (bB 8589934591) rfl rfl (any_of HT_.out (by kernel_rfl)) (fun _ _ _ h => h) (Or.inr ⟨by rfl, rfl⟩) ?_ ?_
     rotate_left
     · simp only [Act.put, LsA, LsZ, LsS, i64_w, i32_w]; rfl
     refine pure_ (i := 33) (N := some 102) (v := undef) (a' := ?_) (bB 17179869183) rfl rfl (any_of HT_.out (by kernel_rfl)) (fun _ _ _ h => h) (Or.inr ⟨by rfl, rfl⟩) ?_ ?_
     rotate_left
     · simp only [Act.put, LsA, LsZ, LsS, i64_w, i32_w]; rfl
     refine pure_ (i := 34) (N := some 103) (v := undef) (a' := ?_) (bB 34359738367) rfl rfl (any_of HT_.out (by kernel_rfl)) (fun _ _ _ h => h) (Or.inr ⟨by rfl, rfl⟩) ?_ ?_
     rotate_left
     · simp only [Act.put, LsA, LsZ, LsS, i64_w, i32_w]; rfl
     refine pure_ (i := 35) (N := some 104) (v := undef) (a' := ?_) (bB 68719476735) rfl rfl (any_of HT_.out (by kernel_rfl)) (fun _ _ _ h => h) (Or.inr ⟨by rfl, rfl⟩) ?_ ?_
     rotate_left
     · simp only [Act.put, LsA, LsZ, LsS, i64_w, i32_w]; rfl
     refine pure_ (i := 36) (N := some 105) (v := undef) (a' := ?_) (bB 137438953471) rfl rfl (any_of HT_.out (by kernel_rfl)) (fun _ _ _ h => h) (Or.inr ⟨by rfl, rfl⟩) ?_ ?_
     rotate_left
     · simp only [Act.put, LsA, LsZ, LsS, i64_w, i32_w]; rfl
     refine pure_ (i := 37) (N := some 106) (v := undef) (a' := ?_) (bB 274877906943) rfl rfl (any_of HT_.out (by kernel_rfl)) (fun _ _ _ h => h) (Or.inr ⟨by rfl, rfl⟩) ?_ ?_
     rotate_left
     · simp only [Act.put, LsA, LsZ, LsS, i64_w, i32_w]; rfl
     refine pure_ (i := 38) (N := some 107) (v := undef) (a' := ?_) (bB 549755813887) rfl rfl (any_of HT_.out (by kernel_rfl)) (fun _ _ _ h => h) (Or.inr ⟨by rfl, rfl⟩) ?_ ?_
     rotate_left
     · simp only [Act.put, LsA, LsZ, LsS, i64_w, i32_w]; rfl
     refine pure_ (i := 39) (N := some 108) (v := undef) (a' := ?_) (bB 1099511627775) rfl rfl (any_of HT_.out (by kernel_rfl)) (fun _ _ _ h => h) (Or.inr ⟨by rfl, rfl⟩) ?_ ?_
     rotate_left
     · simp only [Act.put, LsA, LsZ, LsS, i64_w, i32_w]; rfl
     refine pure_ (i := 40) (N := some 109) (v := undef) (a' := ?_) (bB 2199023255551) rfl rfl (any_of HT_.out (by kernel_rfl)) (fun _ _ _ h => h) (Or.inr ⟨by rfl, rfl⟩) ?_ ?_
     rotate_left
     · simp only [Act.put, LsA, LsZ, LsS, i64_w, i32_w]; rfl
     refine pure_ (i := 41) (N := some 110) (v := undef) (a' := ?_) (bB 4398046511103) rfl rfl (any_of HT_.out (by kernel_rfl)) (fun _ _ _ h => h) (Or.inr ⟨by rfl, rfl⟩) ?_ ?_
     rotate_left
     · simp only [Act.put, LsA, LsZ, LsS, i64_w, i32_w]; rfl
     refine pure_ (i := 42) (N := some 111) (v := undef) (a' := ?_) (bB 8796093022207) rfl rfl (any_of HT_.out (by kernel_rfl)) (fun _ _ _ h => h) (Or.inr ⟨by rfl, rfl⟩) ?_ ?_
     rotate_left
     · simp only [Act.put, LsA, LsZ, LsS, i64_w, i32_w]; rfl
     refine pure_ (i := 43) (N := some 112) (v := undef) (a' := ?_) (bB 17592186044415) rfl rfl (any_of HT_.out (by kernel_rfl)) (fun _ _ _ h => h) (Or.inr ⟨by rfl, rfl⟩) ?_ ?_
     rotate_left
     · simp only [Act.put, LsA, LsZ, LsS, i64_w, i32_w]; rfl
     refine pure_ (i := 44) (N := some 113) (v := undef) (a' := ?_) (bB 35184372088831) rfl rfl (any_of HT_.out (by kernel_rfl)) (fun _ _ _ h => h) (Or.inr ⟨by rfl, rfl⟩) ?_ ?_
     rotate_left
     · simp only [Act.put, LsA, LsZ, LsS, i64_w, i32_w]; rfl
     refine pure_ (i := 45) (N := some 114) (v := undef) (a' := ?_) (bB 70368744177663) rfl rfl (any_of HT_.out (by kernel_rfl)) (fun _ _ _ h => h) (Or.inr ⟨by rfl, rfl⟩) ?_ ?_
     rotate_left
     · simp only [Act.put, LsA, LsZ, LsS, i64_w, i32_w]; rfl
     refine pure_ (i := 46) (N := some 115) (v := ?_) (a' := ?_) (bB 140737488355327) rfl rfl (any_of HT_.out (by kernel_rfl)) (fun _ _ _ h => h) (Or.inl ⟨by rfl, ?_⟩) ?_ ?_
     rotate_left
     · intro w'; go_simp; with_reducible rfl
     rotate_left
     · simp only [Act.put, LsA, LsZ, LsS, i64_w, i32_w]; rfl
     refine pure_ (i := 47) (N := some 116) (v := ?_) (a' := ?_) (bB 281474976710655) rfl rfl (any_of HT_.out (by kernel_rfl)) (fun _ _ _ h => h) (Or.inl ⟨by rfl, ?_⟩) ?_ ?_
     rotate_left
     · intro w'; go_simp; with_reducible rfl
     rotate_left
     · simp only [Act.put, LsA, LsZ, LsS, i64_w, i32_w]; rfl
     refine pure_ (i := 48) (N := some 117) (v := undef) (a' := ?_) (bB 562949953421311) rfl rfl (any_of HT_.out (by kernel_rfl)) (fun _ _ _ h => h) (Or.inr ⟨by rfl, rfl⟩) ?_ ?_
     rotate_left
     · simp only [Act.put, LsA, LsZ, LsS, i64_w, i32_w]; rfl
     refine pure_ (i := 49) (N := some 118) (v := undef) (a' := ?_) (bB 1125899906842623) rfl rfl (any_of HT_.out (by kernel_rfl)) (fun _ _ _ h => h) (Or.inr ⟨by rfl, rfl⟩) ?_ ?_
     rotate_left
     · simp only [Act.put, LsA, LsZ, LsS, i64_w, i32_w]; rfl
     refine pure_ (i := 50) (N := some 119) (v := undef) (a' := ?_) (bB 2251799813685247) rfl rfl (any_of HT_.out (by kernel_rfl)) (fun _ _ _ h => h) (Or.inr ⟨by rfl, rfl⟩) ?_ ?_
     rotate_left
     · simp only [Act.put, LsA, LsZ, LsS, i64_w, i32_w]; rfl
     refine pure_ (i := 51) (N := some 120) (v := undef) (a' := ?_) (bB 4503599627370495) rfl rfl (any_of HT_.out (by kernel_rfl)) (fun _ _ _ h => h) (Or.inr ⟨by rfl, rfl⟩) ?_ ?_
     rotate_left
     · simp only [Act.put, LsA, LsZ, LsS, i64_w, i32_w]; rfl
     refine pure_ (i := 52) (N := some 121) (v := undef) (a' := ?_) (bB 9007199254740991) rfl rfl (any_of HT_.out (by kernel_rfl)) (fun _ _ _ h => h) (Or.inr ⟨by rfl, rfl⟩) ?_ ?_
     rotate_left
     · simp only [Act.put, LsA, LsZ, LsS, i64_w, i32_w]; rfl
     refine pure_ (i := 53) (N := some 122) (v := undef) (a' := ?_) (bB 18014398509481983) rfl rfl (any_of HT_.out (by kernel_rfl)) (fun _ _ _ h => h) (Or.inr ⟨by rfl, rfl⟩) ?_ ?_
     rotate_left
     · simp only [Act.put, LsA, LsZ, LsS, i64_w, i32_w]; rfl
     refine pure_ (i := 54) (N := some 123) (v := undef) (a' := ?_) (bB 36028797018963967) rfl rfl (any_of HT_.out (by kernel_rfl)) (fun _ _ _ h => h) (Or.inr ⟨by rfl, rfl⟩) ?_ ?_
     rotate_left
     · simp only [Act.put, LsA, LsZ, LsS, i64_w, i32_w]; rfl
     refine pure_ (i := 55) (N := some 124) (v := undef) (a' := ?_) (bB 72057594037927935) rfl rfl (any_of HT_.out (by kernel_rfl)) (fun _ _ _ h => h) (Or.inr ⟨by rfl, rfl⟩) ?_ ?_
     rotate_left
     · simp only [Act.put, LsA, LsZ, LsS, i64_w, i32_w]; rfl
     refine pure_ (i := 56) (N := some 125) (v := ?_) (a' := ?_) (bB 144115188075855871) rfl rfl (any_of HT_.out (by kernel_rfl)) (fun _ _ _ h => h) (Or.inl ⟨by rfl, ?_⟩) ?_ ?_
     rotate_left
     · intro w'; go_simp; with_reducible rfl
     rotate_left
     · simp only [Act.put, LsA, LsZ, LsS, i64_w, i32_w]; rfl
     refine done_ (done_of HT_.out (by kernel_rfl)) ?_
     go_wp2
     go_meet
     case rel => exact ⟨rfl, ⟨hHeld⟩⟩
   obtain ⟨rfl, HB2⟩ := hcut
   go_wp2
   go_roundw
   case rel => exact ⟨i + 1, hlt, by go_num, ⟨HC.out.trans (HB2.out.mono HC.out.size)⟩⟩
   case measure => simp [intOf]; omega
end Go.Proofs.YtkedidjjhhjdbaaGreatDoor.Pr
