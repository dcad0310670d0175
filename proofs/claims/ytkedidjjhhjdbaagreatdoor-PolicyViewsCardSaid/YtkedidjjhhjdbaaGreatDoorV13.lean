import Derived.Test.YtkedidjjhhjdbaaGreatDoorV0
import Derived.Test.YtkedidjjhhjdbaaGreatDoorV5
import Derived.Test.YtkedidjjhhjdbaaGreatDoorV11
import Derived.Test.YtkedidjjhhjdbaaGreatDoorV8
import Derived.Test.YtkedidjjhhjdbaaGreatDoorV12
namespace Go.Proofs.YtkedidjjhhjdbaaGreatDoor.Pr
open Go.RowKit Go.Proofs.YtkedidjjhhjdbaaGreatDoorW.PrintWords Go.Proofs.YtkedidjjhhjdbaaGreatDoorW.PrintLast Go.Proofs.YtkedidjjhhjdbaaGreatDoorW.PrintMore
open List renaming setIfInBounds_toArray → LsA, set_cons_zero → LsZ, set_cons_succ → LsS
attribute [local go_sem] max2_int min2_int max_two min_two max_three min_three max_four min_four strGtr strLeq strGeq
set_option linter.unusedVariables false
set_option linter.unusedSimpArgs false
attribute [local go_sem high] eqA33
mutual
def belfryref04_Both.l0 : Nat → List (S33) → Int → List (S33) → Int → Option ((List (S33)) × Int)
  | 0, _, _, _, _ => none
  | k + 1, x6, x7, x8, x9 => if x9 < (x6.length : Int) then (belfryref04_Both.j1 k x6 x7 x8 x9 (decide ((x8.length : Int) ≤ 8))) else (belfryref04_Both.j1 k x6 x7 x8 x9 false)
def belfryref04_Both.j1 : Nat → List (S33) → Int → List (S33) → Int → Bool → Option ((List (S33)) × Int)
  | 0, _, _, _, _, _ => none
  | k + 1, x6, x7, x8, x9, x28 => if x28 = true then (belfryref04_Both.l1 k x6 x7 x8 x9 (x8.length : Int)) else (if (x8.length : Int) > 8 then (some (([] : List (S33)), 7)) else (if x7 = 0 then (some (x8, 0)) else (some (([] : List (S33)), x7))))
def belfryref04_Both.l1 : Nat → List (S33) → Int → List (S33) → Int → Int → Option ((List (S33)) × Int)
  | 0, _, _, _, _, _ => none
  | k + 1, x6, x7, x8, x9, x10 => if x10 > 0 then (if 0 ≤ x9 then (if x9 < (x6.length : Int) then (if 0 ≤ (wrap64 (x10 - 1)) then (if (wrap64 (x10 - 1)) < (x8.length : Int) then ((belfryref04_ahead.f ((rd_T33 x6 x9).f0) ((rd_T33 x6 x9).f1) ((rd_T33 x6 x9).f2) ((rd_T33 x8 (wrap64 (x10 - 1))).f0) ((rd_T33 x8 (wrap64 (x10 - 1))).f1) ((rd_T33 x8 (wrap64 (x10 - 1))).f2)).bind fun t276 => (if t276 = true then (belfryref04_Both.l1 k x6 x7 x8 x9 (wrap64 (x10 - 1))) else (if (((rd_T33 x8 (wrap64 (x10 - 1))).f0) == ((rd_T33 x6 x9).f0) && ((((rd_T33 x8 (wrap64 (x10 - 1))).f1).toList) == (((rd_T33 x6 x9).f1).toList) && ((((rd_T33 x8 (wrap64 (x10 - 1))).f2).toList) == (((rd_T33 x6 x9).f2).toList)))) = true then (belfryref04_Both.l0 k x6 x7 x8 (wrap64 (x9 + 1))) else (if 0 ≤ x10 then (if x10 ≤ (x8.length : Int) then ((some (x8.take (x10 : Int).toNat : List (S33))).bind fun y279 => (if ([] : List (S33)).length + y279.length < 3518437208883 then ((some (([] : List (S33)) ++ y279 : List (S33))).bind fun y283 => (if y283.length < 3518437208883 then ((some (y283 ++ [(⟨(rd_T33 x6 x9).f0, (rd_T33 x6 x9).f1, (rd_T33 x6 x9).f2⟩ : S33)] : List (S33))).bind fun y287 => ((some (x8.drop (x10 : Int).toNat : List (S33))).bind fun y290 => (if y287.length + y290.length < 3518437208883 then (belfryref04_Both.l0 k x6 x7 (y287 ++ y290) (wrap64 (x9 + 1))) else (none)))) else (none))) else (none))) else (none)) else (none))))) else (none)) else (none)) else (none)) else (none)) else (if 0 ≤ x10 then (if x10 ≤ (x8.length : Int) then ((some (x8.take (x10 : Int).toNat : List (S33))).bind fun y297 => (if ([] : List (S33)).length + y297.length < 3518437208883 then ((some (([] : List (S33)) ++ y297 : List (S33))).bind fun y301 => (if 0 ≤ x9 then (if x9 < (x6.length : Int) then (if y301.length < 3518437208883 then ((some (y301 ++ [(⟨(rd_T33 x6 x9).f0, (rd_T33 x6 x9).f1, (rd_T33 x6 x9).f2⟩ : S33)] : List (S33))).bind fun y305 => ((some (x8.drop (x10 : Int).toNat : List (S33))).bind fun y308 => (if y305.length + y308.length < 3518437208883 then (belfryref04_Both.l0 k x6 x7 (y305 ++ y308) (wrap64 (x9 + 1))) else (none)))) else (none)) else (none)) else (none))) else (none))) else (none)) else (none))
end
def belfryref04_Both.f (k : Nat) (l0 : List (S33)) (l1 : List (S33)) : Option ((List (S33)) × Int) := if ([] : List (S33)).length + l0.length < 3518437208883 then ((some (([] : List (S33)) ++ l0 : List (S33))).bind fun y267 => (if y267.length + l1.length < 3518437208883 then ((some (y267 ++ l1 : List (S33))).bind fun y270 => ((belfryref04_eachMatch.f k y270).bind fun t273 => (belfryref04_Both.l0 k y270 t273 ([] : List (S33)) 0))) else (none))) else (none)
def belfryref04_Both.T10 : Bool × List (List Nat × List Nat) := (true, [([], []), ([0], [0]), ([1], [1]), ([2], [2]), ([2], [2]), ([3, 4, 2], [2, 3, 4]), ([5, 2], [2, 5]), ([2], [2]), ([2], [2]), ([8, 2], [2, 8]), ([7, 9, 2], [2, 7, 9]), ([10, 2], [2, 10]), ([6, 11, 2, 2], [2, 6, 11]), ([2, 12], [2, 12])])
def belfryref04_Both.B10 : List Nat := [0, 1, 3, 7, 7, 31, 63, 7, 7, 263, 903, 1927, 4095, 8191]
theorem belfryref04_Both.tab10 : rtab .any (opsOf Tryz.f37 10) = belfryref04_Both.T10 := by kernel_rfl
theorem belfryref04_Both.bits10 : waitsOk belfryref04_Both.T10.2 belfryref04_Both.B10 = true := by kernel_rfl
def belfryref04_Both.T12 : Bool × List (List Nat × List Nat) := (true, [([], []), ([0], [0]), ([1], [1]), ([2], [2]), ([2], [2]), ([4, 2], [2, 4]), ([3, 5, 2], [2, 3, 5]), ([6, 2], [2, 6]), ([2], [2]), ([2], [2]), ([8, 9, 2], [2, 8, 9]), ([10, 2], [2, 10]), ([7, 11, 2], [2, 7, 11]), ([2, 12], [2, 12])])
def belfryref04_Both.B12 : List Nat := [0, 1, 3, 7, 7, 23, 63, 127, 7, 7, 775, 1799, 4095, 8191]
theorem belfryref04_Both.tab12 : rtab .any (opsOf Tryz.f37 12) = belfryref04_Both.T12 := by kernel_rfl
theorem belfryref04_Both.bits12 : waitsOk belfryref04_Both.T12.2 belfryref04_Both.B12 = true := by kernel_rfl
set_option maxHeartbeats 8000000 in
set_option maxRecDepth 100000 in
theorem belfryref04_Both.calls (k : Nat) (A0 : Option Addr) (c0 : Nat) (l0 : List (S33)) (A1 : Option Addr) (c1 : Nat) (l1 : List (S33)) (r1 : List (S33)) (r2 : Int) (w : World) (hr0 : Kd.C k33 w A0 l0.length l0) (hc0 : l0.length ≤ c0) (hr1 : Kd.C k33 w A1 l1.length l1) (hc1 : l1.length ≤ c1) (h : belfryref04_Both.f k l0 l1 = some (r1, r2)) :
  Calls Tryz.prog 37 #[.slice A0 l0.length c0, .slice A1 l1.length c1] w fun e w' => ∃ v0_ : Value, e = .returned (.tuple #[v0_, .int .i64 r2]) ∧ Kd.R k33 33 w' w.heap.size (fun _ => True) v0_ r1 ∧ Below w.heap.size w w' := by
 have hu33 := Tryz.underlying33; have HR0 := Aside0.mk hr0; have HC0 := Aside0.mk hc0; clear hr0 hc0; have HR1 := Aside0.mk hr1; have HC1 := Aside0.mk hc1; clear hr1 hc1; have HB := Aside0.mk (Below.refl w.heap.size w)
 have H : (if ([] : List (S33)).length + l0.length < 3518437208883 then ((some (([] : List (S33)) ++ l0 : List (S33))).bind fun y267 => (if y267.length + l1.length < 3518437208883 then ((some (y267 ++ l1 : List (S33))).bind fun y270 => ((belfryref04_eachMatch.f k y270).bind fun t273 => (belfryref04_Both.l0 k y270 t273 ([] : List (S33)) 0))) else (none))) else (none)) = some (r1, r2) := h
 clear h; by_cases c3 : ([] : List (S33)).length + l0.length < 3518437208883; rotate_left
 · rw [if_neg c3] at H; exact absurd H (by simp)
 rw [if_pos c3] at H; have LMc3 := Aside0.mk c3; clear c3
 obtain ⟨y267, hy267⟩ : ∃ y_ : List (S33), y_ = (([] : List (S33)) ++ l0) := ⟨_, rfl⟩
 replace H : (if y267.length + l1.length < 3518437208883 then ((some (y267 ++ l1 : List (S33))).bind fun y270 => ((belfryref04_eachMatch.f k y270).bind fun t273 => (belfryref04_Both.l0 k y270 t273 ([] : List (S33)) 0))) else (none)) = some (r1, r2) := by first | (rw [hy267]; with_reducible exact H) | (have H2_ := (Option.bind_some _ _).symm.trans H; rw [hy267]; with_reducible exact H2_) | (have H2_ := (Option.bind_some _ _).symm.trans H; with_reducible exact H2_) | with_reducible exact H | (rw [hy267]; exact H) | exact H
 have Ny267 := Aside0.mk hy267; clear hy267; by_cases c4 : y267.length + l1.length < 3518437208883; rotate_left
 · rw [if_neg c4] at H; exact absurd H (by simp)
 rw [if_pos c4] at H; have LMc4 := Aside0.mk c4; clear c4
 obtain ⟨y270, hy270⟩ : ∃ y_ : List (S33), y_ = (y267 ++ l1) := ⟨_, rfl⟩
 replace H : ((belfryref04_eachMatch.f k y270).bind fun t273 => (belfryref04_Both.l0 k y270 t273 ([] : List (S33)) 0)) = some (r1, r2) := by first | (rw [hy270]; with_reducible exact H) | (have H2_ := (Option.bind_some _ _).symm.trans H; rw [hy270]; with_reducible exact H2_) | (have H2_ := (Option.bind_some _ _).symm.trans H; with_reducible exact H2_) | with_reducible exact H | (rw [hy270]; exact H) | exact H
 have Ny270 := Aside0.mk hy270; clear hy270
 replace H := Option.bind_eq_some_iff.mp H
 obtain ⟨t273, A50, H⟩ := H
 replace H : (belfryref04_Both.l0 k y270 t273 ([] : List (S33)) 0) = some (r1, r2) := H
 have A5 := Aside0.mk A50; clear A50; have H' := Aside0.mk H; clear H
 go_enter Tryz.func37, Tryz.ntmps37
 go_wp2_with (first | ((with_reducible refine gate_builtin (b := .append) (xs := #[.tmp 12, .tmp 13]) rfl ?_); (try (refine gate_guard (by rfl) ?_; dsimp only)); at_builtin; refine Kd.R_append_rows k33 (w0 := w) w.heap.size rfl (.tmp 12) (.tmp 13) 28 33 (.agg #[(.int .i64 0), (.string ⟨#[]⟩), (.string ⟨#[]⟩)]) 40 rfl Tryz.underlying28 info33 rfl (by decide) (by omega) (.slice none 0 0) ([] : List (S33)) l0 _ _ _ (fun _ => True) (fun _ => False) rfl rfl ?aO ?aR (fun _ _ h => h) (fun _ h => h.elim) ?aF ?aB ?aS ?aL ?_; (case aR => repeat (first | exact HR0.out | (with_reducible refine Kd.C_alloc ?_ _) | (with_reducible refine Kd.C_drewN ?_ _) | (with_reducible refine Kd.C_drew ?_))); (case aB => exact bO); (case aF => exact (fun _ _ => trivial)); (case aO => exact ((Kd.R_nil _ _ _ _ (fun _ => True)))); (case aS => exact (below_size bO)); (case aL => have := LMc3.out; omega); intro v268 w6 ho hb hg hat; rw [← Ny267.out] at ho; have n0_ := Aside0.mk (hb); have n1_ := Aside0.mk (ho); clear HB; have HB := n0_; have HO269 := n1_; clear n0_ n1_; clear ho hb hg hat) | ((with_reducible refine gate_builtin (b := .append) (xs := #[.tmp 15, .tmp 16]) rfl ?_); (try (refine gate_guard (by rfl) ?_; dsimp only)); at_builtin; refine Kd.R_append_rows k33 (w0 := w) w.heap.size rfl (.tmp 15) (.tmp 16) 28 33 (.agg #[(.int .i64 0), (.string ⟨#[]⟩), (.string ⟨#[]⟩)]) 40 rfl Tryz.underlying28 info33 rfl (by decide) (by omega) v268 y267 l1 _ _ _ (fun _ => True) (fun _ => False) rfl rfl ?aO ?aR (fun _ _ h => h) (fun _ h => h.elim) ?aF ?aB ?aS ?aL ?_; (case aR => repeat (first | exact (Kd.C_below HR1.out HB.out) | (with_reducible refine Kd.C_alloc ?_ _) | (with_reducible refine Kd.C_drewN ?_ _) | (with_reducible refine Kd.C_drew ?_))); (case aB => exact bO); (case aF => exact (fun _ _ => trivial)); (case aO => exact (by (with_reducible repeat (first | apply Kd.R_alloc | apply Kd.R_drewN | apply Kd.R_drew)); exact HO269.out)); (case aS => exact (below_size bO)); (case aL => have := LMc4.out; omega); intro v271 w7 ho hb hg hat; rw [← Ny270.out] at ho; have n0_ := Aside0.mk (hb); have n1_ := Aside0.mk (ho); clear HB; clear HO269; have HB := n0_; have HO272 := n1_; clear n0_ n1_; clear ho hb hg hat; obtain ⟨Ao8, co8, eo8⟩ := Kd.R_slice HO272.out; subst eo8) | ((with_reducible refine gate_callee (f := 68) rfl ?_); refine goesL_ (some 19) rfl rfl Tryz.func68 (by kernel_rfl) rfl #[.slice Ao8 y270.length co8] rfl lR ?_; (with_reducible refine (belfryref04_eachMatch.calls k _ _ y270 t273 _ ?side1 ?side2 A5.out).mono ?_); (case side1 => repeat (first | exact (Kd.R_reads' HO272.out).2.2 | (with_reducible refine Kd.C_alloc ?_ _) | (with_reducible refine Kd.C_drewN ?_ _) | (with_reducible refine Kd.C_drew ?_))); (case side2 => exact (Kd.R_reads' HO272.out).2.1); rintro e w' ⟨rfl, ⟨nd, rfl⟩⟩; refine ⟨_, rfl, ?_⟩))
 go_loopg [8, 9] k (fun kq v8 v9 w' => ∃ (x8_1 : List (S33)) (x9_1 : Int), v9 = .int .i64 x9_1 ∧ Aside0 (belfryref04_Both.l0 kq y270 t273 x8_1 x9_1 = some (r1, r2)) ∧ Aside0 (kq ≤ k) ∧ Aside0 (Kd.R k33 33 w' w.heap.size (fun k_ => some k_ ≠ (v8 : Value).ownBlock) (.slice Ao8 y270.length co8) y270) ∧ Aside0 (Kd.R k33 33 w' w.heap.size (fun k_ => some k_ ≠ ((.slice Ao8 y270.length co8) : Value).ownBlock) v8 x8_1) ∧ Aside0 (Below w.heap.size w w'))
 case atStart => exact ⟨(([] : List (S33))), (0), sR, H', ⟨Nat.le_refl _⟩, ⟨by (with_reducible repeat (first | apply Kd.R_alloc | apply Kd.R_drewN | apply Kd.R_drew)); exact Kd.R_mono HO272.out (fun _ hk => (by simp [Value.ownBlock]))⟩, ⟨by first | exact Kd.R_nil _ _ _ _ _ | exact Kd.N_nil _ _ _ _ _ | exact Kd.V_nil _ _ _ _ _ | exact Kd.Q_nil _ _ _ _ _ | exact Kd.S_nil _ _ _ _ _⟩, ⟨bO⟩⟩
 case round =>
  clear H'; (try clear c1); (try clear p2); (try clear c3); (try clear c4); (try clear c6)
  obtain ⟨x8_1, x9_1, rfl, HA, HK1, HO_6, HO_8, HB⟩ := hrel
  cases gk with
  | zero => exact absurd HA.out (by simp [belfryref04_Both.l0])
  | succ k1 =>
   have H := HA.out; clear HA
   simp only [belfryref04_Both.l0] at H
   have HC9 := Aside0.mk H; clear H
   go_upto_region 7 with (fail)
   go_cut [28] (fun v28 wc => ∃ (kq : Nat) (x28_8 : Bool), v28 = .bool x28_8 ∧ Aside0 (belfryref04_Both.j1 kq y270 t273 x8_1 x9_1 x28_8 = some (r1, r2)) ∧ Aside0 (kq ≤ k1) ∧ Aside0 (Kd.R k33 33 wc w.heap.size (fun k_ => some k_ ≠ (u8 : Value).ownBlock) (.slice Ao8 y270.length co8) y270) ∧ Aside0 (Kd.R k33 33 wc w.heap.size (fun k_ => some k_ ≠ ((.slice Ao8 y270.length co8) : Value).ownBlock) u8 x8_1) ∧ Aside0 (Below w.heap.size w wc))
   case first =>
    have H := HC9.out; clear HC9; by_cases c10 : x9_1 < (y270.length : Int); rotate_left
    ·
     rw [if_neg c10] at H
     have c10b0 : decide (x9_1 < (y270.length : Int)) = false := decide_eq_false c10
     clear c10
     (first | rw [c10b0] | (simp only [i64_w, i32_w]; rw [c10b0]) | skip)
     have H' := Aside0.mk H; clear H; go_wp2
     go_meet
     case rel => exact ⟨_, (false), sR, H', ⟨by have := HK1.out; first | omega | exact Nat.le_refl _⟩, ⟨by (with_reducible repeat (first | apply Kd.R_alloc | apply Kd.R_drewN | apply Kd.R_drew)); exact HO_6.out⟩, ⟨by (with_reducible repeat (first | apply Kd.R_alloc | apply Kd.R_drewN | apply Kd.R_drew)); exact HO_8.out⟩, ⟨bO⟩⟩
    rw [if_pos c10] at H
    have c10b0 : decide (x9_1 < (y270.length : Int)) = true := decide_eq_true c10
    clear c10
    (first | rw [c10b0] | (simp only [i64_w, i32_w]; rw [c10b0]) | skip)
    have H' := Aside0.mk H; clear H
    obtain ⟨Ao11, co11, eo11⟩ := Kd.R_slice HO_8.out
    subst eo11; go_wp2
    go_meet
    case rel => exact ⟨_, (decide ((x8_1.length : Int) ≤ 8)), sR, H', ⟨by have := HK1.out; first | omega | exact Nat.le_refl _⟩, ⟨by (with_reducible repeat (first | apply Kd.R_alloc | apply Kd.R_drewN | apply Kd.R_drew)); exact HO_6.out⟩, ⟨by (with_reducible repeat (first | apply Kd.R_alloc | apply Kd.R_drewN | apply Kd.R_drew)); exact HO_8.out⟩, ⟨bO⟩⟩
   case rest =>
    clear HC9; (try clear c1); (try clear p2); (try clear c3); (try clear c4); (try clear c6); (try clear c10); (try clear c10b0); (try clear p2)
    obtain ⟨kq, x28_8, rfl, HA, HJ8, HO_6, HO_8, HB⟩ := hcut
    cases kq with
    | zero => exact absurd HA.out (by simp [belfryref04_Both.j1])
    | succ kj8 =>
     have H := HA.out; clear HA
     simp only [belfryref04_Both.j1] at H
     by_cases c12 : x28_8 = true; rotate_left
     ·
      replace c12 := Bool.eq_false_iff.mpr c12
      subst c12
      have H1 : (if (x8_1.length : Int) > 8 then (some (([] : List (S33)), 7)) else (if t273 = 0 then (some (x8_1, 0)) else (some (([] : List (S33)), t273)))) = some (r1, r2) := by rw [if_neg (show ¬ (false = true) by decide)] at H; exact H
      clear H; have H := H1; clear H1; by_cases c59 : (x8_1.length : Int) > 8
      ·
       rw [if_pos c59] at H
       have c59b0 : decide (8 < (x8_1.length : Int)) = true := decide_eq_true c59
       have c59b1 : decide (8 < x8_1.length) = true := decide_eq_true (by omega)
       clear c59
       simp only [Option.some.injEq, Prod.mk.injEq] at H
       obtain ⟨rfl, rfl⟩ := H
       obtain ⟨Ao60, co60, eo60⟩ := Kd.R_slice HO_8.out
       subst eo60; go_wp2; go_ret2
       exact ⟨_, eR, by first | exact Kd.R_nil _ _ _ _ _ | exact Kd.N_nil _ _ _ _ _ | exact Kd.V_nil _ _ _ _ _ | exact Kd.Q_nil _ _ _ _ _ | exact Kd.S_nil _ _ _ _ _, bO⟩
      rw [if_neg c59] at H
      have c59b0 : decide (8 < (x8_1.length : Int)) = false := decide_eq_false c59
      have c59b1 : decide (8 < x8_1.length) = false := decide_eq_false (by omega)
      clear c59; by_cases c61 : t273 = 0; rotate_left
      ·
       rw [if_neg c61] at H
       have c61b0 : (t273 == 0) = false := beq_eq_false_iff_ne.mpr c61
       have c61b1 : (t273 != 0) = true := bne_iff_ne.mpr c61
       simp only [Option.some.injEq, Prod.mk.injEq] at H
       obtain ⟨rfl, rfl⟩ := H
       obtain ⟨Ao63, co63, eo63⟩ := Kd.R_slice HO_8.out
       subst eo63; go_wp2; go_ret2
       exact ⟨_, eR, by first | exact Kd.R_nil _ _ _ _ _ | exact Kd.N_nil _ _ _ _ _ | exact Kd.V_nil _ _ _ _ _ | exact Kd.Q_nil _ _ _ _ _ | exact Kd.S_nil _ _ _ _ _, bO⟩
      rw [if_pos c61] at H
      have c61b0 : (t273 == 0) = true := beq_iff_eq.mpr c61
      have c61b1 : (t273 != 0) = false := bne_eq_false_iff_eq.mpr c61
      clear c61
      simp only [Option.some.injEq, Prod.mk.injEq] at H
      obtain ⟨rfl, rfl⟩ := H
      obtain ⟨Ao62, co62, eo62⟩ := Kd.R_slice HO_8.out
      subst eo62; go_wp2; go_ret2
      exact ⟨_, eR, by (with_reducible repeat (first | apply Kd.R_alloc | apply Kd.R_drewN | apply Kd.R_drew)); exact Kd.R_mono HO_8.out (fun _ hk => trivial), bO⟩
     subst c12
     have H1 : (belfryref04_Both.l1 kj8 y270 t273 x8_1 x9_1 (x8_1.length : Int)) = some (r1, r2) := by rw [if_pos rfl] at H; exact H
     clear H; have H := H1; clear H1; have H' := Aside0.mk H; clear H
     obtain ⟨Ao13, co13, eo13⟩ := Kd.R_slice HO_8.out
     subst eo13; go_wp2
     go_loopg [10] kj8 (fun kq v10 w' => ∃ (x10_3 : Int), v10 = .int .i64 x10_3 ∧ Aside0 (belfryref04_Both.l1 kq y270 t273 x8_1 x9_1 x10_3 = some (r1, r2)) ∧ Aside0 (kq ≤ kj8) ∧ Aside0 (Kd.R k33 33 w' w.heap.size (fun k_ => some k_ ≠ ((.slice Ao13 x8_1.length co13) : Value).ownBlock) (.slice Ao8 y270.length co8) y270) ∧ Aside0 (Kd.R k33 33 w' w.heap.size (fun k_ => some k_ ≠ ((.slice Ao8 y270.length co8) : Value).ownBlock) (.slice Ao13 x8_1.length co13) x8_1) ∧ Aside0 (Below w.heap.size w w'))
     case atStart => exact ⟨((x8_1.length : Int)), sR, H', ⟨Nat.le_refl _⟩, ⟨by (with_reducible repeat (first | apply Kd.R_alloc | apply Kd.R_drewN | apply Kd.R_drew)); exact HO_6.out⟩, ⟨by (with_reducible repeat (first | apply Kd.R_alloc | apply Kd.R_drewN | apply Kd.R_drew)); exact HO_8.out⟩, ⟨bO⟩⟩
     case round =>
      clear H'; (try clear c1); (try clear p2); (try clear c3); (try clear c4); (try clear c6); (try clear c10); (try clear c10b0); (try clear c12); (try clear p2)
      obtain ⟨x10_3, rfl, HA, HK3, HO_6, HO_8, HB⟩ := hrel
      cases gk with
      | zero => exact absurd HA.out (by simp [belfryref04_Both.l1])
      | succ k3 =>
       have H := HA.out; clear HA
       simp only [belfryref04_Both.l1] at H
       by_cases c14 : x10_3 > 0; rotate_left
       ·
        rw [if_neg c14] at H
        have c14b0 : decide (0 < x10_3) = false := decide_eq_false c14
        clear c14; by_cases c43 : 0 ≤ x10_3; rotate_left
        · rw [if_neg c43] at H; exact absurd H (by simp)
        rw [if_pos c43] at H; have c43b0 := eq_true c43
        have c43b1 : decide (0 ≤ x10_3) = true := decide_eq_true c43
        clear c43; by_cases c44 : x10_3 ≤ (x8_1.length : Int); rotate_left
        · rw [if_neg c44] at H; exact absurd H (by simp)
        rw [if_pos c44] at H; have c44b0 := eq_true c44
        have c44b1 : decide (x10_3 ≤ (x8_1.length : Int)) = true := decide_eq_true c44
        clear c44
        obtain ⟨y297, hy297⟩ : ∃ y_ : List (S33), y_ = (x8_1.take (x10_3 : Int).toNat) := ⟨_, rfl⟩
        replace H : (if ([] : List (S33)).length + y297.length < 3518437208883 then ((some (([] : List (S33)) ++ y297 : List (S33))).bind fun y301 => (if 0 ≤ x9_1 then (if x9_1 < (y270.length : Int) then (if y301.length < 3518437208883 then ((some (y301 ++ [(⟨(rd_T33 y270 x9_1).f0, (rd_T33 y270 x9_1).f1, (rd_T33 y270 x9_1).f2⟩ : S33)] : List (S33))).bind fun y305 => ((some (x8_1.drop (x10_3 : Int).toNat : List (S33))).bind fun y308 => (if y305.length + y308.length < 3518437208883 then (belfryref04_Both.l0 k3 y270 t273 (y305 ++ y308) (wrap64 (x9_1 + 1))) else (none)))) else (none)) else (none)) else (none))) else (none)) = some (r1, r2) := by first | (rw [hy297]; with_reducible exact H) | (have H2_ := (Option.bind_some _ _).symm.trans H; rw [hy297]; with_reducible exact H2_) | (have H2_ := (Option.bind_some _ _).symm.trans H; with_reducible exact H2_) | with_reducible exact H | (rw [hy297]; exact H) | exact H
        have Ny297 := Aside0.mk hy297; clear hy297; by_cases c45 : ([] : List (S33)).length + y297.length < 3518437208883; rotate_left
        · rw [if_neg c45] at H; exact absurd H (by simp)
        rw [if_pos c45] at H; have LMc45 := Aside0.mk c45; clear c45
        obtain ⟨y301, hy301⟩ : ∃ y_ : List (S33), y_ = (([] : List (S33)) ++ y297) := ⟨_, rfl⟩
        replace H : (if 0 ≤ x9_1 then (if x9_1 < (y270.length : Int) then (if y301.length < 3518437208883 then ((some (y301 ++ [(⟨(rd_T33 y270 x9_1).f0, (rd_T33 y270 x9_1).f1, (rd_T33 y270 x9_1).f2⟩ : S33)] : List (S33))).bind fun y305 => ((some (x8_1.drop (x10_3 : Int).toNat : List (S33))).bind fun y308 => (if y305.length + y308.length < 3518437208883 then (belfryref04_Both.l0 k3 y270 t273 (y305 ++ y308) (wrap64 (x9_1 + 1))) else (none)))) else (none)) else (none)) else (none)) = some (r1, r2) := by first | (rw [hy301]; with_reducible exact H) | (have H2_ := (Option.bind_some _ _).symm.trans H; rw [hy301]; with_reducible exact H2_) | (have H2_ := (Option.bind_some _ _).symm.trans H; with_reducible exact H2_) | with_reducible exact H | (rw [hy301]; exact H) | exact H
        have Ny301 := Aside0.mk hy301; clear hy301; by_cases c46 : 0 ≤ x9_1; rotate_left
        · rw [if_neg c46] at H; exact absurd H (by simp)
        rw [if_pos c46] at H
        have c46b0 : decide (0 ≤ x9_1) = true := decide_eq_true c46
        clear c46; by_cases c47 : x9_1 < (y270.length : Int); rotate_left
        · rw [if_neg c47] at H; exact absurd H (by simp)
        rw [if_pos c47] at H
        have c47b0 : decide (x9_1 < (y270.length : Int)) = true := decide_eq_true c47
        clear c47; by_cases c48 : y301.length < 3518437208883; rotate_left
        · rw [if_neg c48] at H; exact absurd H (by simp)
        rw [if_pos c48] at H; have LMc48 := Aside0.mk c48; clear c48
        obtain ⟨y305, hy305⟩ : ∃ y_ : List (S33), y_ = (y301 ++ [(⟨(rd_T33 y270 x9_1).f0, (rd_T33 y270 x9_1).f1, (rd_T33 y270 x9_1).f2⟩ : S33)]) := ⟨_, rfl⟩
        replace H : ((some (x8_1.drop (x10_3 : Int).toNat : List (S33))).bind fun y308 => (if y305.length + y308.length < 3518437208883 then (belfryref04_Both.l0 k3 y270 t273 (y305 ++ y308) (wrap64 (x9_1 + 1))) else (none))) = some (r1, r2) := by first | (rw [hy305]; with_reducible exact H) | (have H2_ := (Option.bind_some _ _).symm.trans H; rw [hy305]; with_reducible exact H2_) | (have H2_ := (Option.bind_some _ _).symm.trans H; with_reducible exact H2_) | with_reducible exact H | (rw [hy305]; exact H) | exact H
        have Ny305 := Aside0.mk hy305; clear hy305; have c49b0 := eq_true (of_decide_eq_true asm : 0 ≤ x10_3); have c50b0 := eq_true (of_decide_eq_true asm : x10_3 ≤ (x8_1.length : Int))
        obtain ⟨y308, hy308⟩ : ∃ y_ : List (S33), y_ = (x8_1.drop (x10_3 : Int).toNat) := ⟨_, rfl⟩
        replace H : (if y305.length + y308.length < 3518437208883 then (belfryref04_Both.l0 k3 y270 t273 (y305 ++ y308) (wrap64 (x9_1 + 1))) else (none)) = some (r1, r2) := by first | (rw [hy308]; with_reducible exact H) | (have H2_ := (Option.bind_some _ _).symm.trans H; rw [hy308]; with_reducible exact H2_) | (have H2_ := (Option.bind_some _ _).symm.trans H; with_reducible exact H2_) | with_reducible exact H | (rw [hy308]; exact H) | exact H
        have Ny308 := Aside0.mk hy308; clear hy308; by_cases c51 : y305.length + y308.length < 3518437208883; rotate_left
        · rw [if_neg c51] at H; exact absurd H (by simp)
        rw [if_pos c51] at H; have LMc51 := Aside0.mk c51; clear c51
        obtain ⟨y312, hy312⟩ : ∃ y_ : List (S33), y_ = (y305 ++ y308) := ⟨_, rfl⟩
        replace H : (belfryref04_Both.l0 k3 y270 t273 y312 (wrap64 (x9_1 + 1))) = some (r1, r2) := by first | (rw [hy312]; with_reducible exact H) | (have H2_ := (Option.bind_some _ _).symm.trans H; rw [hy312]; with_reducible exact H2_) | (have H2_ := (Option.bind_some _ _).symm.trans H; with_reducible exact H2_) | with_reducible exact H | (rw [hy312]; exact H) | exact H
        have Ny312 := Aside0.mk hy312; clear hy312; have H' := Aside0.mk H; clear H
        try go_wp2
        have n0_ := Aside0.mk (Kd.R_drew HO_6.out); have n1_ := Aside0.mk (Kd.R_drew HO_8.out); have n2_ := Aside0.mk (below_drew1 HB.out); clear HO_6; clear HO_8; clear HB; have HO_6 := n0_; have HO_8 := n1_; have HB := n2_; clear n0_ n1_ n2_
        refine start_ (n := 14) (S := fun w' => True) (ds := []) (bA 14 0) (by kernel_rfl) rfl rfl trivial (fun hHeld => ?_); refine with_tabW belfryref04_Both.tab10 belfryref04_Both.bits10 (fun HT_ HW_ => ?_)
        generalize wr.drew = w52 at HO_6 HO_8 HB hHeld ⊢
        refine pur 0 (some 33) (bA 14 1) HT_ rfl rfl (by kernel_rfl) (v := ?_) (a' := ?_) (Or.inl ⟨by rfl, ?_⟩) ?_ ?_
        rotate_left
        · intro w'; go_simp; with_reducible rfl
        rotate_left
        · simp only [Act.put, LsA, LsZ, LsS, i64_w, i32_w]; rfl
        refine pur 1 (some 34) (bA 14 3) HT_ rfl rfl (by kernel_rfl) (v := ?_) (a' := ?_) (Or.inl ⟨by rfl, ?_⟩) ?_ ?_
        rotate_left
        · intro w'; go_simp; with_reducible rfl
        rotate_left
        · simp only [Act.put, LsA, LsZ, LsS, i64_w, i32_w]; rfl
        refine pur 2 (some 35) (bA 14 7) HT_ rfl rfl (by kernel_rfl) (v := ?_) (a' := ?_) (Or.inl ⟨by rfl, ?_⟩) ?_ ?_
        rotate_left
        · intro w'; go_simp; with_reducible rfl
        rotate_left
        · simp only [Act.put, LsA, LsZ, LsS, i64_w, i32_w]; rfl
        refine pure_ (i := 3) (N := some 36) (v := undef) (a' := ?_) (bA 14 15) rfl rfl (any_of HT_.out (by kernel_rfl)) (fun _ _ _ h => h) (Or.inr ⟨by rfl, rfl⟩) ?_ ?_
        rotate_left
        · simp only [Act.put, LsA, LsZ, LsS, i64_w, i32_w]; rfl
        refine pure_ (i := 4) (N := some 37) (v := undef) (a' := ?_) (bA 14 31) rfl rfl (any_of HT_.out (by kernel_rfl)) (fun _ _ _ h => h) (Or.inr ⟨by rfl, rfl⟩) ?_ ?_
        rotate_left
        · simp only [Act.put, LsA, LsZ, LsS, i64_w, i32_w]; rfl
        refine pure_ (i := 5) (N := some 38) (v := undef) (a' := ?_) (bA 14 63) rfl rfl (any_of HT_.out (by kernel_rfl)) (fun _ _ _ h => h) (Or.inr ⟨by rfl, rfl⟩) ?_ ?_
        rotate_left
        · simp only [Act.put, LsA, LsZ, LsS, i64_w, i32_w]; rfl
        refine pure_ (i := 6) (N := some 39) (v := undef) (a' := ?_) (bA 14 127) rfl rfl (any_of HT_.out (by kernel_rfl)) (fun _ _ _ h => h) (Or.inr ⟨by rfl, rfl⟩) ?_ ?_
        rotate_left
        · simp only [Act.put, LsA, LsZ, LsS, i64_w, i32_w]; rfl
        refine pure_ (i := 7) (N := some 40) (v := undef) (a' := ?_) (bA 14 255) rfl rfl (any_of HT_.out (by kernel_rfl)) (fun _ _ _ h => h) (Or.inr ⟨by rfl, rfl⟩) ?_ ?_
        rotate_left
        · simp only [Act.put, LsA, LsZ, LsS, i64_w, i32_w]; rfl
        refine pure_ (i := 8) (N := some 41) (v := undef) (a' := ?_) (bA 14 511) rfl rfl (any_of HT_.out (by kernel_rfl)) (fun _ _ _ h => h) (Or.inr ⟨by rfl, rfl⟩) ?_ ?_
        rotate_left
        · simp only [Act.put, LsA, LsZ, LsS, i64_w, i32_w]; rfl
        refine pure_ (i := 9) (N := some 42) (v := undef) (a' := ?_) (bA 14 1023) rfl rfl (any_of HT_.out (by kernel_rfl)) (fun _ _ _ h => h) (Or.inr ⟨by rfl, rfl⟩) ?_ ?_
        rotate_left
        · simp only [Act.put, LsA, LsZ, LsS, i64_w, i32_w]; rfl
        refine pure_ (i := 10) (N := some 43) (v := undef) (a' := ?_) (bA 14 2047) rfl rfl (any_of HT_.out (by kernel_rfl)) (fun _ _ _ h => h) (Or.inr ⟨by rfl, rfl⟩) ?_ ?_
        rotate_left
        · simp only [Act.put, LsA, LsZ, LsS, i64_w, i32_w]; rfl
        refine pure_ (i := 11) (N := some 44) (v := undef) (a' := ?_) (bA 14 4095) rfl rfl (any_of HT_.out (by kernel_rfl)) (fun _ _ _ h => h) (Or.inr ⟨by rfl, rfl⟩) ?_ ?_
        rotate_left
        · simp only [Act.put, LsA, LsZ, LsS, i64_w, i32_w]; rfl
        refine pure_ (i := 12) (N := some 45) (v := undef) (a' := ?_) (bA 14 8191) rfl rfl (any_of HT_.out (by kernel_rfl)) (fun _ _ _ h => h) (Or.inr ⟨by rfl, rfl⟩) ?_ ?_
        rotate_left
        · simp only [Act.put, LsA, LsZ, LsS, i64_w, i32_w]; rfl
        refine pur 13 (some 46) (bA 14 16383) HT_ rfl rfl (by kernel_rfl) (v := ?_) (a' := ?_) (Or.inl ⟨by rfl, ?_⟩) ?_ ?_
        rotate_left
        · intro w'; go_simp; with_reducible rfl
        rotate_left
        · simp only [Act.put, LsA, LsZ, LsS, i64_w, i32_w]; rfl
        refine done_ (done_of HT_.out (by kernel_rfl)) ?_
        try go_wp2
        have n0_ := Aside0.mk (Kd.R_drew HO_6.out); have n1_ := Aside0.mk (Kd.R_drew HO_8.out); have n2_ := Aside0.mk (below_drew1 HB.out); clear HO_6; clear HO_8; clear HB; have HO_6 := n0_; have HO_8 := n1_; have HB := n2_; clear n0_ n1_ n2_
        refine start_ (n := 14) (S := fun w' => True) (ds := []) (bA 14 0) (by kernel_rfl) rfl rfl trivial (fun hHeld => ?_); refine with_tabW belfryref04_Both.tab12 belfryref04_Both.bits12 (fun HT_ HW_ => ?_)
        generalize w52.drew = w53 at HO_6 HO_8 HB hHeld ⊢
        refine pur 0 (some 49) (bA 14 1) HT_ rfl rfl (by kernel_rfl) (v := ?_) (a' := ?_) (Or.inl ⟨by rfl, ?_⟩) ?_ ?_
        rotate_left
        · intro w'; go_simp; with_reducible rfl
        rotate_left
        · simp only [Act.put, LsA, LsZ, LsS, i64_w, i32_w]; rfl
        refine pur 1 (some 50) (bA 14 3) HT_ rfl rfl (by kernel_rfl) (v := ?_) (a' := ?_) (Or.inl ⟨by rfl, ?_⟩) ?_ ?_
        rotate_left
        · intro w'; go_simp; with_reducible rfl
        rotate_left
        · simp only [Act.put, LsA, LsZ, LsS, i64_w, i32_w]; rfl
        refine pur 2 (some 51) (bA 14 7) HT_ rfl rfl (by kernel_rfl) (v := ?_) (a' := ?_) (Or.inl ⟨by rfl, ?_⟩) ?_ ?_
        rotate_left
        · intro w'; go_simp; with_reducible rfl
        rotate_left
        · simp only [Act.put, LsA, LsZ, LsS, i64_w, i32_w]; rfl
        refine pure_ (i := 3) (N := some 52) (v := undef) (a' := ?_) (bA 14 15) rfl rfl (any_of HT_.out (by kernel_rfl)) (fun _ _ _ h => h) (Or.inr ⟨by rfl, rfl⟩) ?_ ?_
        rotate_left
        · simp only [Act.put, LsA, LsZ, LsS, i64_w, i32_w]; rfl
        refine pure_ (i := 4) (N := some 53) (v := undef) (a' := ?_) (bA 14 31) rfl rfl (any_of HT_.out (by kernel_rfl)) (fun _ _ _ h => h) (Or.inr ⟨by rfl, rfl⟩) ?_ ?_
        rotate_left
        · simp only [Act.put, LsA, LsZ, LsS, i64_w, i32_w]; rfl
        refine pure_ (i := 5) (N := some 54) (v := undef) (a' := ?_) (bA 14 63) rfl rfl (any_of HT_.out (by kernel_rfl)) (fun _ _ _ h => h) (Or.inr ⟨by rfl, rfl⟩) ?_ ?_
        rotate_left
        · simp only [Act.put, LsA, LsZ, LsS, i64_w, i32_w]; rfl
        refine pure_ (i := 6) (N := some 55) (v := undef) (a' := ?_) (bA 14 127) rfl rfl (any_of HT_.out (by kernel_rfl)) (fun _ _ _ h => h) (Or.inr ⟨by rfl, rfl⟩) ?_ ?_
        rotate_left
        · simp only [Act.put, LsA, LsZ, LsS, i64_w, i32_w]; rfl
        refine pure_ (i := 7) (N := some 56) (v := undef) (a' := ?_) (bA 14 255) rfl rfl (any_of HT_.out (by kernel_rfl)) (fun _ _ _ h => h) (Or.inr ⟨by rfl, rfl⟩) ?_ ?_
        rotate_left
        · simp only [Act.put, LsA, LsZ, LsS, i64_w, i32_w]; rfl
        refine pure_ (i := 8) (N := some 57) (v := undef) (a' := ?_) (bA 14 511) rfl rfl (any_of HT_.out (by kernel_rfl)) (fun _ _ _ h => h) (Or.inr ⟨by rfl, rfl⟩) ?_ ?_
        rotate_left
        · simp only [Act.put, LsA, LsZ, LsS, i64_w, i32_w]; rfl
        refine pure_ (i := 9) (N := some 58) (v := undef) (a' := ?_) (bA 14 1023) rfl rfl (any_of HT_.out (by kernel_rfl)) (fun _ _ _ h => h) (Or.inr ⟨by rfl, rfl⟩) ?_ ?_
        rotate_left
        · simp only [Act.put, LsA, LsZ, LsS, i64_w, i32_w]; rfl
        refine pure_ (i := 10) (N := some 59) (v := undef) (a' := ?_) (bA 14 2047) rfl rfl (any_of HT_.out (by kernel_rfl)) (fun _ _ _ h => h) (Or.inr ⟨by rfl, rfl⟩) ?_ ?_
        rotate_left
        · simp only [Act.put, LsA, LsZ, LsS, i64_w, i32_w]; rfl
        refine pure_ (i := 11) (N := some 60) (v := undef) (a' := ?_) (bA 14 4095) rfl rfl (any_of HT_.out (by kernel_rfl)) (fun _ _ _ h => h) (Or.inr ⟨by rfl, rfl⟩) ?_ ?_
        rotate_left
        · simp only [Act.put, LsA, LsZ, LsS, i64_w, i32_w]; rfl
        refine pure_ (i := 12) (N := some 61) (v := undef) (a' := ?_) (bA 14 8191) rfl rfl (any_of HT_.out (by kernel_rfl)) (fun _ _ _ h => h) (Or.inr ⟨by rfl, rfl⟩) ?_ ?_
        rotate_left
        · simp only [Act.put, LsA, LsZ, LsS, i64_w, i32_w]; rfl
        refine pur 13 (some 62) (bA 14 16383) HT_ rfl rfl (by kernel_rfl) (v := ?_) (a' := ?_) (Or.inl ⟨by rfl, ?_⟩) ?_ ?_
        rotate_left
        · intro w'; go_simp; with_reducible rfl
        rotate_left
        · simp only [Act.put, LsA, LsZ, LsS, i64_w, i32_w]; rfl
        refine done_ (done_of HT_.out (by kernel_rfl)) ?_
        have q54 : (x10_3 : Int) ≤ ((x8_1.length : Int) : Int) := of_decide_eq_true asm
        obtain ⟨i054, hi054, _, hsz54, _⟩ := info_parts info33
        have hroom54 : x8_1.length ≤ co13 := (Kd.R_reads' HO_8.out).2.1
        have hC54 : Kd.C k33 _ Ao13 x8_1.length x8_1 := (Kd.R_reads' HO_8.out).2.2
        have hcut54 := cut_to (P := Tryz.prog) 28 33 .i64 Tryz.underlying28 hi054 Ao13 x8_1.length co13 x10_3 (of_decide_eq_true asm) q54 hroom54; have hr54 := Kd.C_take (m := (x10_3 : Int).toNat) hC54 (by omega)
        have hy54 : y297.length = (x10_3 : Int).toNat := (by rw [Ny297.out, List.length_take]; omega)
        rw [← Ny297.out] at hr54; rw [← hy54] at hcut54; have HR300 := Aside0.mk hr54
        have HC300 := Aside0.mk (show y297.length ≤ co13 from by omega)
        clear hr54 hC54 hroom54 hi054 hsz54; have KY54 := Aside0.mk hy54; clear hy54
        have KL54 := Aside0.mk (show (x10_3 : Int).toNat ≤ x8_1.length from by omega)
        replace q54 := eq_true q54
        try go_wp2_with (first | ((with_reducible refine gate_builtin (b := .append) (xs := #[.tmp 63, .tmp 66]) rfl ?_); (try (refine gate_guard (by rfl) ?_; dsimp only)); at_builtin; refine Kd.R_append_rows k33 (w0 := w) w.heap.size rfl (.tmp 63) (.tmp 66) 28 33 (.agg #[(.int .i64 0), (.string ⟨#[]⟩), (.string ⟨#[]⟩)]) 40 rfl Tryz.underlying28 info33 rfl (by decide) (by omega) (.slice none 0 0) ([] : List (S33)) y297 _ _ _ (fun k_ => some k_ ≠ (.slice Ao8 y270.length co8 : Value).ownBlock ∧ some k_ ≠ (.slice Ao13 x8_1.length co13 : Value).ownBlock) (fun _ => False) rfl rfl ?aO ?aR (fun _ _ h => h) (fun _ h => h.elim) ?aF ?aB ?aS ?aL ?_; (case aR => repeat (first | exact (by repeat (first | (with_reducible exact HR300.out) | (with_reducible refine Kd.C_alloc ?_ _) | (with_reducible refine Kd.C_drewN ?_ _) | (with_reducible refine Kd.C_drew ?_) | exact HR300.out)) | (with_reducible refine Kd.C_alloc ?_ _) | (with_reducible refine Kd.C_drewN ?_ _) | (with_reducible refine Kd.C_drew ?_))); (case aB => exact bO); (case aF => exact (fun k_ hk => ⟨Kd.fresh' (Kd.R_lt (by (with_reducible repeat (first | apply Kd.R_alloc | apply Kd.R_drewN | apply Kd.R_drew)); exact HO_6.out)) k_ hk, Kd.fresh' (Kd.R_lt (by (with_reducible repeat (first | apply Kd.R_alloc | apply Kd.R_drewN | apply Kd.R_drew)); exact HO_8.out)) k_ hk⟩)); (case aO => exact ((Kd.R_nil _ _ _ _ (fun k_ => some k_ ≠ (.slice Ao8 y270.length co8 : Value).ownBlock ∧ some k_ ≠ (.slice Ao13 x8_1.length co13 : Value).ownBlock)))); (case aS => exact (below_size bO)); (case aL => have := LMc45.out; omega); intro v302 w55 ho hb hg hat; rw [← Ny301.out] at ho; have n0_ := Aside0.mk (Kd.R_after (Kd.R_apart_nil (by (with_reducible repeat (first | apply Kd.R_alloc | apply Kd.R_drewN | apply Kd.R_drew)); exact HO_6.out)) hg hat); have n1_ := Aside0.mk (Kd.R_after (Kd.R_apart_nil (by (with_reducible repeat (first | apply Kd.R_alloc | apply Kd.R_drewN | apply Kd.R_drew)); exact HO_8.out)) hg hat); have n2_ := Aside0.mk (hb); have n3_ := Aside0.mk ((show Kd.C k33 w55 Ao13 y297.length y297 from by rw [Ny297.out]; exact Kd.C_take (m := (x10_3 : Int).toNat) ((Kd.R_reads' (Kd.R_after (Kd.R_apart_nil (by (with_reducible repeat (first | apply Kd.R_alloc | apply Kd.R_drewN | apply Kd.R_drew)); exact HO_8.out)) hg hat)).2.2) KL54.out)); have n4_ := Aside0.mk (ho); clear HO_6; clear HO_8; clear HB; clear HR300; have HO_6 := n0_; have HO_8 := n1_; have HB := n2_; have HR300 := n3_; have HO303 := n4_; clear n0_ n1_ n2_ n3_ n4_; clear ho hb hg hat; have p304 : 0 ≤ (x9_1 : Int) := of_decide_eq_true asm; have q304 : x9_1 < (y270.length : Int) := of_decide_eq_true asm; obtain ⟨ad304, e304, hx304_0, hx304_1, hx304_2⟩ := at_T33 (Kd.R_reads' HO_6.out).2.2 x9_1 p304 q304; cases e304; replace p304 := eq_true p304; replace q304 := eq_true q304) | ((with_reducible refine gate_builtin (b := .append) (xs := #[.tmp 68, .tmp 73]) rfl ?_); (try (refine gate_guard (by rfl) ?_; dsimp only)); at_builtin; refine Kd.R_append k33 (w0 := w) w.heap.size rfl (.tmp 68) (.tmp 73) 28 33 (.agg #[(.int .i64 0), (.string ⟨#[]⟩), (.string ⟨#[]⟩)]) 40 rfl Tryz.underlying28 info33 rfl (by decide) (by omega) v302 y301 (⟨(rd_T33 y270 x9_1).f0, (rd_T33 y270 x9_1).f1, (rd_T33 y270 x9_1).f2⟩ : S33) [.int .i64 ((rd_T33 y270 x9_1).f0), .string ((rd_T33 y270 x9_1).f1), .string ((rd_T33 y270 x9_1).f2)] (fun k_ => some k_ ≠ (.slice (some ad304) y270.length co8 : Value).ownBlock ∧ some k_ ≠ (.slice Ao13 x8_1.length co13 : Value).ownBlock) (fun _ => False) rfl rfl ?aP (fun _ hk => hk.elim) ?aF ?aO ?aB ?aS ?aL ?_; (case aP => exact k33_mkM _ _ _ (⟨(rd_T33 y270 x9_1).f0, (rd_T33 y270 x9_1).f1, (rd_T33 y270 x9_1).f2⟩ : S33)); (case aB => exact bO); (case aF => exact (fun k_ hk => ⟨Kd.fresh' (Kd.R_lt (by (with_reducible repeat (first | apply Kd.R_alloc | apply Kd.R_drewN | apply Kd.R_drew)); exact HO_6.out)) k_ hk, Kd.fresh' (Kd.R_lt (by (with_reducible repeat (first | apply Kd.R_alloc | apply Kd.R_drewN | apply Kd.R_drew)); exact HO_8.out)) k_ hk⟩)); (case aO => exact (by (with_reducible repeat (first | apply Kd.R_alloc | apply Kd.R_drewN | apply Kd.R_drew)); exact HO303.out)); (case aS => exact (below_size bO)); (case aL => have := LMc48.out; omega); intro v306 w56 ho hb hg hat; rw [← Ny305.out] at ho; have n0_ := Aside0.mk (Kd.R_after (ok := (fun k_ => some k_ ≠ (.slice Ao13 x8_1.length co13 : Value).ownBlock)) (by (with_reducible repeat (first | apply Kd.R_alloc | apply Kd.R_drewN | apply Kd.R_drew)); exact HO_6.out) hg hat); have n1_ := Aside0.mk (Kd.R_after (ok := (fun k_ => some k_ ≠ (.slice (some ad304) y270.length co8 : Value).ownBlock)) (by (with_reducible repeat (first | apply Kd.R_alloc | apply Kd.R_drewN | apply Kd.R_drew)); exact HO_8.out) hg hat); have n2_ := Aside0.mk (hb); have n3_ := Aside0.mk ((show Kd.C k33 w56 Ao13 y297.length y297 from by rw [Ny297.out]; exact Kd.C_take (m := (x10_3 : Int).toNat) ((Kd.R_reads' (Kd.R_after (ok := (fun k_ => some k_ ≠ (.slice (some ad304) y270.length co8 : Value).ownBlock)) (by (with_reducible repeat (first | apply Kd.R_alloc | apply Kd.R_drewN | apply Kd.R_drew)); exact HO_8.out) hg hat)).2.2) KL54.out)); have n4_ := Aside0.mk (ho); clear HO_6; clear HO_8; clear HB; clear HR300; clear HO303; have HO_6 := n0_; have HO_8 := n1_; have HB := n2_; have HR300 := n3_; have HO307 := n4_; clear n0_ n1_ n2_ n3_ n4_; clear ho hb hg hat; have q57 : (x10_3 : Int) ≤ ((x8_1.length : Int) : Int) := of_decide_eq_true asm; obtain ⟨i057, hi057, _, hsz57, _⟩ := info_parts info33; have hroom57 : x8_1.length ≤ co13 := (Kd.R_reads' HO_8.out).2.1; have hC57 : Kd.C k33 _ Ao13 x8_1.length x8_1 := (Kd.R_reads' HO_8.out).2.2; have q057 : (0 : Int) ≤ (x10_3 : Int) := of_decide_eq_true asm; have hcut57 := cut_from (P := Tryz.prog) 28 33 .i64 Tryz.underlying28 hi057 3 hsz57 Ao13 x8_1.length co13 x10_3 q057 q57; have hr57 := Kd.C_drop (m := (x10_3 : Int).toNat) (c := co13) hC57 (by omega) hroom57; obtain ⟨A57, hA57⟩ : ∃ A1, A1 = (if co13 = (x10_3 : Int).toNat then Ao13 else (Ao13 : Option Addr).map (·.add ((x10_3 : Int).toNat * 3))) := ⟨_, rfl⟩; obtain ⟨c57, hc57⟩ : ∃ c1, c1 = co13 - (x10_3 : Int).toNat := ⟨_, rfl⟩; have hy57 : y308.length = x8_1.length - (x10_3 : Int).toNat := (by rw [Ny308.out, List.length_drop] <;> omega); rw [show (x8_1).drop (x10_3 : Int).toNat = y308 from Ny308.out.symm] at hr57; replace hr57 : Kd.C k33 _ A57 y308.length y308 := (by rw [hA57]; exact hr57); rw [← hy57, ← hA57, ← hc57] at hcut57; have HR311 := Aside0.mk hr57; have HC311 := Aside0.mk (show y308.length ≤ c57 from by rw [hy57, hc57]; exact Nat.sub_le_sub_right hroom57 _); clear hr57 hC57 hroom57 hi057 hsz57 hc57; have KY57 := Aside0.mk hy57; have KA57 := Aside0.mk hA57; clear hy57 hA57; have KL57 := Aside0.mk (show (x10_3 : Int).toNat ≤ x8_1.length from by omega); replace q57 := eq_true q57) | ((with_reducible refine gate_builtin (b := .append) (xs := #[.tmp 75, .tmp 78]) rfl ?_); (try (refine gate_guard (by rfl) ?_; dsimp only)); at_builtin; refine Kd.R_append_rows k33 (w0 := w) w.heap.size rfl (.tmp 75) (.tmp 78) 28 33 (.agg #[(.int .i64 0), (.string ⟨#[]⟩), (.string ⟨#[]⟩)]) 40 rfl Tryz.underlying28 info33 rfl (by decide) (by omega) v306 y305 y308 _ _ _ (fun k_ => some k_ ≠ (.slice (some ad304) y270.length co8 : Value).ownBlock ∧ some k_ ≠ (.slice Ao13 x8_1.length co13 : Value).ownBlock) (fun _ => False) rfl rfl ?aO ?aR (fun _ _ h => h) (fun _ h => h.elim) ?aF ?aB ?aS ?aL ?_; (case aR => repeat (first | exact (by repeat (first | (with_reducible exact HR311.out) | (with_reducible refine Kd.C_alloc ?_ _) | (with_reducible refine Kd.C_drewN ?_ _) | (with_reducible refine Kd.C_drew ?_) | exact HR311.out)) | (with_reducible refine Kd.C_alloc ?_ _) | (with_reducible refine Kd.C_drewN ?_ _) | (with_reducible refine Kd.C_drew ?_))); (case aB => exact bO); (case aF => exact (fun k_ hk => ⟨Kd.fresh' (Kd.R_lt (by (with_reducible repeat (first | apply Kd.R_alloc | apply Kd.R_drewN | apply Kd.R_drew)); exact HO_6.out)) k_ hk, Kd.fresh' (Kd.R_lt (by (with_reducible repeat (first | apply Kd.R_alloc | apply Kd.R_drewN | apply Kd.R_drew)); exact HO_8.out)) k_ hk⟩)); (case aO => exact (by (with_reducible repeat (first | apply Kd.R_alloc | apply Kd.R_drewN | apply Kd.R_drew)); exact HO307.out)); (case aS => exact (below_size bO)); (case aL => have := LMc51.out; omega); intro v313 w58 ho hb hg hat; rw [← Ny312.out] at ho; have n0_ := Aside0.mk (Kd.R_after (ok := (fun k_ => some k_ ≠ (.slice Ao13 x8_1.length co13 : Value).ownBlock)) (by (with_reducible repeat (first | apply Kd.R_alloc | apply Kd.R_drewN | apply Kd.R_drew)); exact HO_6.out) hg hat); have n1_ := Aside0.mk (Kd.R_after (ok := (fun k_ => some k_ ≠ (.slice (some ad304) y270.length co8 : Value).ownBlock)) (by (with_reducible repeat (first | apply Kd.R_alloc | apply Kd.R_drewN | apply Kd.R_drew)); exact HO_8.out) hg hat); have n2_ := Aside0.mk (hb); have n3_ := Aside0.mk ((show Kd.C k33 w58 Ao13 y297.length y297 from by rw [Ny297.out]; exact Kd.C_take (m := (x10_3 : Int).toNat) ((Kd.R_reads' (Kd.R_after (ok := (fun k_ => some k_ ≠ (.slice (some ad304) y270.length co8 : Value).ownBlock)) (by (with_reducible repeat (first | apply Kd.R_alloc | apply Kd.R_drewN | apply Kd.R_drew)); exact HO_8.out) hg hat)).2.2) KL54.out)); have n4_ := Aside0.mk ((show Kd.C k33 w58 A57 y308.length y308 from by rw [Ny308.out, KA57.out]; exact Kd.C_drop (m := (x10_3 : Int).toNat) (c := co13) ((Kd.R_reads' (Kd.R_after (ok := (fun k_ => some k_ ≠ (.slice (some ad304) y270.length co8 : Value).ownBlock)) (by (with_reducible repeat (first | apply Kd.R_alloc | apply Kd.R_drewN | apply Kd.R_drew)); exact HO_8.out) hg hat)).2.2) KL57.out ((Kd.R_reads' (Kd.R_after (ok := (fun k_ => some k_ ≠ (.slice (some ad304) y270.length co8 : Value).ownBlock)) (by (with_reducible repeat (first | apply Kd.R_alloc | apply Kd.R_drewN | apply Kd.R_drew)); exact HO_8.out) hg hat)).2.1))); have n5_ := Aside0.mk (ho); clear HO_6; clear HO_8; clear HB; clear HR300; clear HR311; clear HO307; have HO_6 := n0_; have HO_8 := n1_; have HB := n2_; have HR300 := n3_; have HR311 := n4_; have HO314 := n5_; clear n0_ n1_ n2_ n3_ n4_ n5_; clear ho hb hg hat))
        go_roundg k3
        case measure => have := HK1.out; have := HJ8.out; have := HK3.out; omega
        case rel => exact ⟨(y312), (wrap64 (x9_1 + 1)), sR, H', ⟨by have := HK1.out; have := HJ8.out; have := HK3.out; omega⟩, ⟨by (with_reducible repeat (first | apply Kd.R_alloc | apply Kd.R_drewN | apply Kd.R_drew)); exact Kd.R_mono HO_6.out (fun _ hk => hk.2)⟩, ⟨by (with_reducible repeat (first | apply Kd.R_alloc | apply Kd.R_drewN | apply Kd.R_drew)); exact Kd.R_mono HO314.out (fun _ hk => hk.1)⟩, ⟨bO⟩⟩
       rw [if_pos c14] at H
       have c14b0 : decide (0 < x10_3) = true := decide_eq_true c14
       clear c14; by_cases c15 : 0 ≤ x9_1; rotate_left
       · rw [if_neg c15] at H; exact absurd H (by simp)
       rw [if_pos c15] at H
       have c15b0 : decide (0 ≤ x9_1) = true := decide_eq_true c15
       clear c15; by_cases c16 : x9_1 < (y270.length : Int); rotate_left
       · rw [if_neg c16] at H; exact absurd H (by simp)
       rw [if_pos c16] at H
       have c16b0 : decide (x9_1 < (y270.length : Int)) = true := decide_eq_true c16
       clear c16
       obtain ⟨ji17, hji17⟩ : ∃ j_ : Int, (wrap64 (x10_3 - 1)) = j_ := ⟨_, rfl⟩
       replace H : (if 0 ≤ (ji17) then (if (ji17) < (x8_1.length : Int) then ((belfryref04_ahead.f ((rd_T33 y270 x9_1).f0) ((rd_T33 y270 x9_1).f1) ((rd_T33 y270 x9_1).f2) ((rd_T33 x8_1 (ji17)).f0) ((rd_T33 x8_1 (ji17)).f1) ((rd_T33 x8_1 (ji17)).f2)).bind fun t276 => (if t276 = true then (belfryref04_Both.l1 k3 y270 t273 x8_1 x9_1 ji17) else (if (((rd_T33 x8_1 (ji17)).f0) == ((rd_T33 y270 x9_1).f0) && ((((rd_T33 x8_1 (ji17)).f1).toList) == (((rd_T33 y270 x9_1).f1).toList) && ((((rd_T33 x8_1 (ji17)).f2).toList) == (((rd_T33 y270 x9_1).f2).toList)))) = true then (belfryref04_Both.l0 k3 y270 t273 x8_1 (wrap64 (x9_1 + 1))) else (if 0 ≤ x10_3 then (if x10_3 ≤ (x8_1.length : Int) then ((some (x8_1.take (x10_3 : Int).toNat : List (S33))).bind fun y279 => (if ([] : List (S33)).length + y279.length < 3518437208883 then ((some (([] : List (S33)) ++ y279 : List (S33))).bind fun y283 => (if y283.length < 3518437208883 then ((some (y283 ++ [(⟨(rd_T33 y270 x9_1).f0, (rd_T33 y270 x9_1).f1, (rd_T33 y270 x9_1).f2⟩ : S33)] : List (S33))).bind fun y287 => ((some (x8_1.drop (x10_3 : Int).toNat : List (S33))).bind fun y290 => (if y287.length + y290.length < 3518437208883 then (belfryref04_Both.l0 k3 y270 t273 (y287 ++ y290) (wrap64 (x9_1 + 1))) else (none)))) else (none))) else (none))) else (none)) else (none))))) else (none)) else (none)) = some (r1, r2) := by first | (rw [hji17] at H; exact H) | (simp only [hji17] at H ⊢; exact H)
       have hji17w : (IntKind.i64.wrap (x10_3 - 1)) = ji17 := (i64_w _).trans hji17
       by_cases c18 : 0 ≤ (ji17); rotate_left
       · rw [if_neg c18] at H; exact absurd H (by simp)
       rw [if_pos c18] at H
       have c18b0 : decide (0 ≤ (ji17)) = true := decide_eq_true c18
       clear c18; by_cases c19 : (ji17) < (x8_1.length : Int); rotate_left
       · rw [if_neg c19] at H; exact absurd H (by simp)
       rw [if_pos c19] at H
       have c19b0 : decide ((ji17) < (x8_1.length : Int)) = true := decide_eq_true c19
       clear c19
       replace H := Option.bind_eq_some_iff.mp H
       obtain ⟨t276, A200, H⟩ := H
       replace H : (if t276 = true then (belfryref04_Both.l1 k3 y270 t273 x8_1 x9_1 ji17) else (if (((rd_T33 x8_1 (ji17)).f0) == ((rd_T33 y270 x9_1).f0) && ((((rd_T33 x8_1 (ji17)).f1).toList) == (((rd_T33 y270 x9_1).f1).toList) && ((((rd_T33 x8_1 (ji17)).f2).toList) == (((rd_T33 y270 x9_1).f2).toList)))) = true then (belfryref04_Both.l0 k3 y270 t273 x8_1 (wrap64 (x9_1 + 1))) else (if 0 ≤ x10_3 then (if x10_3 ≤ (x8_1.length : Int) then ((some (x8_1.take (x10_3 : Int).toNat : List (S33))).bind fun y279 => (if ([] : List (S33)).length + y279.length < 3518437208883 then ((some (([] : List (S33)) ++ y279 : List (S33))).bind fun y283 => (if y283.length < 3518437208883 then ((some (y283 ++ [(⟨(rd_T33 y270 x9_1).f0, (rd_T33 y270 x9_1).f1, (rd_T33 y270 x9_1).f2⟩ : S33)] : List (S33))).bind fun y287 => ((some (x8_1.drop (x10_3 : Int).toNat : List (S33))).bind fun y290 => (if y287.length + y290.length < 3518437208883 then (belfryref04_Both.l0 k3 y270 t273 (y287 ++ y290) (wrap64 (x9_1 + 1))) else (none)))) else (none))) else (none))) else (none)) else (none)))) = some (r1, r2) := H
       have A20 := Aside0.mk A200; clear A200; by_cases c21 : t276 = true
       ·
        subst c21
        have H1 : (belfryref04_Both.l1 k3 y270 t273 x8_1 x9_1 ji17) = some (r1, r2) := by rw [if_pos rfl] at H; exact H
        clear H; have H := H1; clear H1; have H' := Aside0.mk H; clear H
        try go_wp2
        have n0_ := Aside0.mk (Kd.R_drew HO_6.out); have n1_ := Aside0.mk (Kd.R_drew HO_8.out); have n2_ := Aside0.mk (below_drew1 HB.out); clear HO_6; clear HO_8; clear HB; have HO_6 := n0_; have HO_8 := n1_; have HB := n2_; clear n0_ n1_ n2_
        have p274 : 0 ≤ (x9_1 : Int) := of_decide_eq_true asm
        have q274 : x9_1 < (y270.length : Int) := of_decide_eq_true asm
        obtain ⟨ad274, e274, hx274_0, hx274_1, hx274_2⟩ := at_T33 (Kd.R_reads' HO_6.out).2.2 x9_1 p274 q274
        cases e274; replace p274 := eq_true p274; replace q274 := eq_true q274
        have p275 : 0 ≤ ((ji17) : Int) := of_decide_eq_true asm
        have q275 : (ji17) < (x8_1.length : Int) := of_decide_eq_true asm
        obtain ⟨ad275, e275, hx275_0, hx275_1, hx275_2⟩ := at_T33 (Kd.R_reads' HO_8.out).2.2 (ji17) p275 q275
        cases e275; replace p275 := eq_true p275; replace q275 := eq_true q275
        refine start_ (n := 14) (S := fun w' => w'.cell? (ad274.add ((x9_1).toNat * 3)) = some (.int .i64 ((rd_T33 y270 x9_1).f0)) ∧ w'.cell? ⟨(ad274.add ((x9_1).toNat * 3)).block, (ad274.add ((x9_1).toNat * 3)).off + 1, none⟩ = some (.string ((rd_T33 y270 x9_1).f1)) ∧ w'.cell? ⟨(ad274.add ((x9_1).toNat * 3)).block, (ad274.add ((x9_1).toNat * 3)).off + 2, none⟩ = some (.string ((rd_T33 y270 x9_1).f2)) ∧ w'.cell? (ad275.add (((ji17)).toNat * 3)) = some (.int .i64 ((rd_T33 x8_1 (ji17)).f0)) ∧ w'.cell? ⟨(ad275.add (((ji17)).toNat * 3)).block, (ad275.add (((ji17)).toNat * 3)).off + 1, none⟩ = some (.string ((rd_T33 x8_1 (ji17)).f1)) ∧ w'.cell? ⟨(ad275.add (((ji17)).toNat * 3)).block, (ad275.add (((ji17)).toNat * 3)).off + 2, none⟩ = some (.string ((rd_T33 x8_1 (ji17)).f2))) (ds := []) (bA 14 0) (by kernel_rfl) rfl rfl ⟨hx274_0, hx274_1, hx274_2, hx275_0, hx275_1, hx275_2⟩ (fun hHeld => ?_); refine with_tabW belfryref04_Both.tab10 belfryref04_Both.bits10 (fun HT_ HW_ => ?_)
        generalize wr.drew = w22 at HO_6 HO_8 HB hx274_0 hx274_1 hx274_2 hx275_0 hx275_1 hx275_2 hHeld ⊢
        refine pur 0 (some 33) (bA 14 1) HT_ rfl rfl (by kernel_rfl) (v := ?_) (a' := ?_) (Or.inl ⟨by rfl, ?_⟩) ?_ ?_
        rotate_left
        · intro w'; go_simp; with_reducible rfl
        rotate_left
        · simp only [Act.put, LsA, LsZ, LsS, i64_w, i32_w]; rfl
        refine pur 1 (some 34) (bA 14 3) HT_ rfl rfl (by kernel_rfl) (v := ?_) (a' := ?_) (Or.inl ⟨by rfl, ?_⟩) ?_ ?_
        rotate_left
        · intro w'; go_simp; with_reducible rfl
        rotate_left
        · simp only [Act.put, LsA, LsZ, LsS, i64_w, i32_w]; rfl
        refine pur 2 (some 35) (bA 14 7) HT_ rfl rfl (by kernel_rfl) (v := ?_) (a' := ?_) (Or.inl ⟨by rfl, ?_⟩) ?_ ?_
        rotate_left
        · intro w'; go_simp; with_reducible rfl
        rotate_left
        · simp only [Act.put, LsA, LsZ, LsS, i64_w, i32_w]; rfl
        refine pur 3 (some 36) (bA 14 15) HT_ rfl rfl (by kernel_rfl) (v := ?_) (a' := ?_) (Or.inl ⟨by rfl, ?_⟩) ?_ ?_
        rotate_left
        · intro w'; go_simp; with_reducible rfl
        rotate_left
        · simp only [Act.put, LsA, LsZ, LsS, i64_w, i32_w]; rfl
        refine pur 4 (some 37) (bA 14 31) HT_ rfl rfl (by kernel_rfl) (v := ?_) (a' := ?_) (Or.inl ⟨by rfl, ?_⟩) ?_ ?_
        rotate_left
        · intro w'; go_simp; with_reducible rfl
        rotate_left
        · simp only [Act.put, LsA, LsZ, LsS, i64_w, i32_w]; rfl
        refine pur 5 (some 38) (bA 14 63) HT_ rfl rfl (by kernel_rfl) (v := ?_) (a' := ?_) (Or.inl ⟨by rfl, ?_⟩) ?_ ?_
        rotate_left
        · intro w'; go_simp; with_reducible rfl
        rotate_left
        · simp only [Act.put, LsA, LsZ, LsS, i64_w, i32_w]; rfl
        refine pur 7 (some 40) (bA 14 191) HT_ rfl rfl (by kernel_rfl) (v := ?_) (a' := ?_) (Or.inl ⟨by rfl, ?_⟩) ?_ ?_
        rotate_left
        · intro w'; go_simp; with_reducible rfl
        rotate_left
        · simp only [Act.put, LsA, LsZ, LsS, i64_w, i32_w]; rfl
        refine pur 8 (some 41) (bA 14 447) HT_ rfl rfl (by kernel_rfl) (v := ?_) (a' := ?_) (Or.inl ⟨by rfl, ?_⟩) ?_ ?_
        rotate_left
        · intro w'; go_simp; with_reducible rfl
        rotate_left
        · simp only [Act.put, LsA, LsZ, LsS, i64_w, i32_w]; rfl
        refine pur 9 (some 42) (bA 14 959) HT_ rfl rfl (by kernel_rfl) (v := ?_) (a' := ?_) (Or.inl ⟨by rfl, ?_⟩) ?_ ?_
        rotate_left
        · intro w'; go_simp; with_reducible rfl
        rotate_left
        · simp only [Act.put, LsA, LsZ, LsS, i64_w, i32_w]; rfl
        refine pur 10 (some 43) (bA 14 1983) HT_ rfl rfl (by kernel_rfl) (v := ?_) (a' := ?_) (Or.inl ⟨by rfl, ?_⟩) ?_ ?_
        rotate_left
        · intro w'; go_simp; with_reducible rfl
        rotate_left
        · simp only [Act.put, LsA, LsZ, LsS, i64_w, i32_w]; rfl
        refine take_ (i := 6) (N := some 39) (v := ?_) (a' := ?_) (bA 14 2047) rfl rfl (take_ofW HT_.out HW_.out (by kernel_rfl)) (fun _ _ _ h => h) (Or.inl ⟨by rfl, ?_⟩) hHeld ?_ ?_
        rotate_left
        ·
         rintro w' ⟨s0, s1, s2, s3, s4, s5⟩
         go_simp; with_reducible rfl
        rotate_left
        · simp only [Act.put, LsA, LsZ, LsS, i64_w, i32_w]; rfl
        refine take_ (i := 11) (N := some 44) (v := ?_) (a' := ?_) (bA 14 4095) rfl rfl (take_ofW HT_.out HW_.out (by kernel_rfl)) (fun _ _ _ h => h) (Or.inl ⟨by rfl, ?_⟩) hHeld ?_ ?_
        rotate_left
        ·
         rintro w' ⟨s0, s1, s2, s3, s4, s5⟩
         go_simp; with_reducible rfl
        rotate_left
        · simp only [Act.put, LsA, LsZ, LsS, i64_w, i32_w]; rfl
        refine one_ (i := 12) (N := some 45) (bA 14 8191) rfl rfl (one_of HT_.out (by kernel_rfl)) (by decide) (fun K hK => ?_)
        refine goes_ Tryz.func69 (by kernel_rfl) rfl #[.agg #[.int .i64 ((rd_T33 y270 x9_1).f0), .string ((rd_T33 y270 x9_1).f1), .string ((rd_T33 y270 x9_1).f2)], .agg #[.int .i64 ((rd_T33 x8_1 (ji17)).f0), .string ((rd_T33 x8_1 (ji17)).f1), .string ((rd_T33 x8_1 (ji17)).f2)]] (by rfl) rfl rfl (by (try simp only [List.map_toArray, List.map_cons, List.map_nil]); first | done | (simp only [hji17]; rfl) | rfl | (simp only [List.length_drop, List.length_take]; rfl)) ?_
        with_reducible refine (belfryref04_ahead.calls ((rd_T33 y270 x9_1).f0) ((rd_T33 y270 x9_1).f1) ((rd_T33 y270 x9_1).f2) ((rd_T33 x8_1 (ji17)).f0) ((rd_T33 x8_1 (ji17)).f1) ((rd_T33 x8_1 (ji17)).f2) true _ A20.out).mono ?_
        rintro e w23 ⟨rfl, hb⟩
        have HS0_ := (hb.cell (World.block_lt_of_cell? _ _ (hHeld.1))).trans (hHeld.1); have HS1_ := (hb.cell (World.block_lt_of_cell? _ _ (hHeld.2.1))).trans (hHeld.2.1); have HS2_ := (hb.cell (World.block_lt_of_cell? _ _ (hHeld.2.2.1))).trans (hHeld.2.2.1); have HS3_ := (hb.cell (World.block_lt_of_cell? _ _ (hHeld.2.2.2.1))).trans (hHeld.2.2.2.1); have HS4_ := (hb.cell (World.block_lt_of_cell? _ _ (hHeld.2.2.2.2.1))).trans (hHeld.2.2.2.2.1); have HS5_ := (hb.cell (World.block_lt_of_cell? _ _ (hHeld.2.2.2.2.2))).trans (hHeld.2.2.2.2.2)
        refine ⟨_, rfl, ?_⟩
        have n0_ := Aside0.mk (Kd.R_below (by (with_reducible repeat (first | apply Kd.R_alloc | apply Kd.R_drewN | apply Kd.R_drew)); exact HO_6.out) hb)
        have n1_ := Aside0.mk (Kd.R_below (by (with_reducible repeat (first | apply Kd.R_alloc | apply Kd.R_drewN | apply Kd.R_drew)); exact HO_8.out) hb)
        have n2_ := Aside0.mk (below_step bO hb); clear HO_6; clear HO_8; clear HB; have HO_6 := n0_; have HO_8 := n1_; have HB := n2_; clear n0_ n1_ n2_; (try clear hb); (try clear hb2); (try clear hk); (try clear hi)
        refine hK.out _ _ ⟨HS0_, HS1_, HS2_, HS3_, HS4_, HS5_⟩ (fun hHeld => ?_)
        clear hK K
        refine norm_ (a' := ?_) ?_ ?_
        rotate_left
        ·
         show Act.put _ (some 45) _ = _
         simp only [Act.put, LsA, LsZ, LsS, i64_w, i32_w]; rfl
        refine pur 13 (some 46) (bA 14 16383) HT_ rfl rfl (by kernel_rfl) (v := ?_) (a' := ?_) (Or.inl ⟨by rfl, ?_⟩) ?_ ?_
        rotate_left
        · intro w'; go_simp; with_reducible rfl
        rotate_left
        · simp only [Act.put, LsA, LsZ, LsS, i64_w, i32_w]; rfl
        refine done_ (done_of HT_.out (by kernel_rfl)) ?_
        try go_wp2
        go_roundg k3
        case measure => have := HK1.out; have := HJ8.out; have := HK3.out; omega
        case rel => exact ⟨(ji17), (by first | rfl | (simp; done) | (simp only [← hji17] <;> (first | rfl | simp)) | (simp [*]; done)), H', ⟨by have := HK1.out; have := HJ8.out; have := HK3.out; omega⟩, ⟨by (with_reducible repeat (first | apply Kd.R_alloc | apply Kd.R_drewN | apply Kd.R_drew)); exact HO_6.out⟩, ⟨by (with_reducible repeat (first | apply Kd.R_alloc | apply Kd.R_drewN | apply Kd.R_drew)); exact HO_8.out⟩, ⟨bO⟩⟩
       replace c21 := Bool.eq_false_iff.mpr c21
       subst c21
       have H1 : (if (((rd_T33 x8_1 (ji17)).f0) == ((rd_T33 y270 x9_1).f0) && ((((rd_T33 x8_1 (ji17)).f1).toList) == (((rd_T33 y270 x9_1).f1).toList) && ((((rd_T33 x8_1 (ji17)).f2).toList) == (((rd_T33 y270 x9_1).f2).toList)))) = true then (belfryref04_Both.l0 k3 y270 t273 x8_1 (wrap64 (x9_1 + 1))) else (if 0 ≤ x10_3 then (if x10_3 ≤ (x8_1.length : Int) then ((some (x8_1.take (x10_3 : Int).toNat : List (S33))).bind fun y279 => (if ([] : List (S33)).length + y279.length < 3518437208883 then ((some (([] : List (S33)) ++ y279 : List (S33))).bind fun y283 => (if y283.length < 3518437208883 then ((some (y283 ++ [(⟨(rd_T33 y270 x9_1).f0, (rd_T33 y270 x9_1).f1, (rd_T33 y270 x9_1).f2⟩ : S33)] : List (S33))).bind fun y287 => ((some (x8_1.drop (x10_3 : Int).toNat : List (S33))).bind fun y290 => (if y287.length + y290.length < 3518437208883 then (belfryref04_Both.l0 k3 y270 t273 (y287 ++ y290) (wrap64 (x9_1 + 1))) else (none)))) else (none))) else (none))) else (none)) else (none))) = some (r1, r2) := by rw [if_neg (show ¬ (false = true) by decide)] at H; exact H
       clear H; have H := H1; clear H1; by_cases c24 : (((rd_T33 x8_1 (ji17)).f0) == ((rd_T33 y270 x9_1).f0) && ((((rd_T33 x8_1 (ji17)).f1).toList) == (((rd_T33 y270 x9_1).f1).toList) && ((((rd_T33 x8_1 (ji17)).f2).toList) == (((rd_T33 y270 x9_1).f2).toList)))) = true
       ·
        rw [if_pos c24] at H
        have c24b0 : (((rd_T33 x8_1 (ji17)).f0) == ((rd_T33 y270 x9_1).f0) && ((((rd_T33 x8_1 (ji17)).f1).toList) == (((rd_T33 y270 x9_1).f1).toList) && ((((rd_T33 x8_1 (ji17)).f2).toList) == (((rd_T33 y270 x9_1).f2).toList)))) = true := c24
        (try (have c24b1 : decide (((rd_T33 x8_1 (ji17)).f0) = ((rd_T33 y270 x9_1).f0) && ((((rd_T33 x8_1 (ji17)).f1).toList) == (((rd_T33 y270 x9_1).f1).toList) && ((((rd_T33 x8_1 (ji17)).f2).toList) == (((rd_T33 y270 x9_1).f2).toList)))) = true := by simpa using c24))
        (try (have c24b2 : (((rd_T33 x8_1 (ji17)).f0) == ((rd_T33 y270 x9_1).f0) && ((((rd_T33 x8_1 (ji17)).f1).toList) == (((rd_T33 y270 x9_1).f1).toList) && ((((rd_T33 x8_1 (ji17)).f2).toList) == (((rd_T33 y270 x9_1).f2).toList)))) = true := by simpa using c24))
        clear c24; have H' := Aside0.mk H; clear H
        try go_wp2
        have n0_ := Aside0.mk (Kd.R_drew HO_6.out); have n1_ := Aside0.mk (Kd.R_drew HO_8.out); have n2_ := Aside0.mk (below_drew1 HB.out); clear HO_6; clear HO_8; clear HB; have HO_6 := n0_; have HO_8 := n1_; have HB := n2_; clear n0_ n1_ n2_
        have p274 : 0 ≤ (x9_1 : Int) := of_decide_eq_true asm
        have q274 : x9_1 < (y270.length : Int) := of_decide_eq_true asm
        obtain ⟨ad274, e274, hx274_0, hx274_1, hx274_2⟩ := at_T33 (Kd.R_reads' HO_6.out).2.2 x9_1 p274 q274
        cases e274; replace p274 := eq_true p274; replace q274 := eq_true q274
        have p275 : 0 ≤ ((ji17) : Int) := of_decide_eq_true asm
        have q275 : (ji17) < (x8_1.length : Int) := of_decide_eq_true asm
        obtain ⟨ad275, e275, hx275_0, hx275_1, hx275_2⟩ := at_T33 (Kd.R_reads' HO_8.out).2.2 (ji17) p275 q275
        cases e275; replace p275 := eq_true p275; replace q275 := eq_true q275
        refine start_ (n := 14) (S := fun w' => w'.cell? (ad274.add ((x9_1).toNat * 3)) = some (.int .i64 ((rd_T33 y270 x9_1).f0)) ∧ w'.cell? ⟨(ad274.add ((x9_1).toNat * 3)).block, (ad274.add ((x9_1).toNat * 3)).off + 1, none⟩ = some (.string ((rd_T33 y270 x9_1).f1)) ∧ w'.cell? ⟨(ad274.add ((x9_1).toNat * 3)).block, (ad274.add ((x9_1).toNat * 3)).off + 2, none⟩ = some (.string ((rd_T33 y270 x9_1).f2)) ∧ w'.cell? (ad275.add (((ji17)).toNat * 3)) = some (.int .i64 ((rd_T33 x8_1 (ji17)).f0)) ∧ w'.cell? ⟨(ad275.add (((ji17)).toNat * 3)).block, (ad275.add (((ji17)).toNat * 3)).off + 1, none⟩ = some (.string ((rd_T33 x8_1 (ji17)).f1)) ∧ w'.cell? ⟨(ad275.add (((ji17)).toNat * 3)).block, (ad275.add (((ji17)).toNat * 3)).off + 2, none⟩ = some (.string ((rd_T33 x8_1 (ji17)).f2))) (ds := []) (bA 14 0) (by kernel_rfl) rfl rfl ⟨hx274_0, hx274_1, hx274_2, hx275_0, hx275_1, hx275_2⟩ (fun hHeld => ?_); refine with_tabW belfryref04_Both.tab10 belfryref04_Both.bits10 (fun HT_ HW_ => ?_)
        generalize wr.drew = w25 at HO_6 HO_8 HB hx274_0 hx274_1 hx274_2 hx275_0 hx275_1 hx275_2 hHeld ⊢
        refine pur 0 (some 33) (bA 14 1) HT_ rfl rfl (by kernel_rfl) (v := ?_) (a' := ?_) (Or.inl ⟨by rfl, ?_⟩) ?_ ?_
        rotate_left
        · intro w'; go_simp; with_reducible rfl
        rotate_left
        · simp only [Act.put, LsA, LsZ, LsS, i64_w, i32_w]; rfl
        refine pur 1 (some 34) (bA 14 3) HT_ rfl rfl (by kernel_rfl) (v := ?_) (a' := ?_) (Or.inl ⟨by rfl, ?_⟩) ?_ ?_
        rotate_left
        · intro w'; go_simp; with_reducible rfl
        rotate_left
        · simp only [Act.put, LsA, LsZ, LsS, i64_w, i32_w]; rfl
        refine pur 2 (some 35) (bA 14 7) HT_ rfl rfl (by kernel_rfl) (v := ?_) (a' := ?_) (Or.inl ⟨by rfl, ?_⟩) ?_ ?_
        rotate_left
        · intro w'; go_simp; with_reducible rfl
        rotate_left
        · simp only [Act.put, LsA, LsZ, LsS, i64_w, i32_w]; rfl
        refine pur 3 (some 36) (bA 14 15) HT_ rfl rfl (by kernel_rfl) (v := ?_) (a' := ?_) (Or.inl ⟨by rfl, ?_⟩) ?_ ?_
        rotate_left
        · intro w'; go_simp; with_reducible rfl
        rotate_left
        · simp only [Act.put, LsA, LsZ, LsS, i64_w, i32_w]; rfl
        refine pur 4 (some 37) (bA 14 31) HT_ rfl rfl (by kernel_rfl) (v := ?_) (a' := ?_) (Or.inl ⟨by rfl, ?_⟩) ?_ ?_
        rotate_left
        · intro w'; go_simp; with_reducible rfl
        rotate_left
        · simp only [Act.put, LsA, LsZ, LsS, i64_w, i32_w]; rfl
        refine pur 5 (some 38) (bA 14 63) HT_ rfl rfl (by kernel_rfl) (v := ?_) (a' := ?_) (Or.inl ⟨by rfl, ?_⟩) ?_ ?_
        rotate_left
        · intro w'; go_simp; with_reducible rfl
        rotate_left
        · simp only [Act.put, LsA, LsZ, LsS, i64_w, i32_w]; rfl
        refine pur 7 (some 40) (bA 14 191) HT_ rfl rfl (by kernel_rfl) (v := ?_) (a' := ?_) (Or.inl ⟨by rfl, ?_⟩) ?_ ?_
        rotate_left
        · intro w'; go_simp; with_reducible rfl
        rotate_left
        · simp only [Act.put, LsA, LsZ, LsS, i64_w, i32_w]; rfl
        refine pur 8 (some 41) (bA 14 447) HT_ rfl rfl (by kernel_rfl) (v := ?_) (a' := ?_) (Or.inl ⟨by rfl, ?_⟩) ?_ ?_
        rotate_left
        · intro w'; go_simp; with_reducible rfl
        rotate_left
        · simp only [Act.put, LsA, LsZ, LsS, i64_w, i32_w]; rfl
        refine pur 9 (some 42) (bA 14 959) HT_ rfl rfl (by kernel_rfl) (v := ?_) (a' := ?_) (Or.inl ⟨by rfl, ?_⟩) ?_ ?_
        rotate_left
        · intro w'; go_simp; with_reducible rfl
        rotate_left
        · simp only [Act.put, LsA, LsZ, LsS, i64_w, i32_w]; rfl
        refine pur 10 (some 43) (bA 14 1983) HT_ rfl rfl (by kernel_rfl) (v := ?_) (a' := ?_) (Or.inl ⟨by rfl, ?_⟩) ?_ ?_
        rotate_left
        · intro w'; go_simp; with_reducible rfl
        rotate_left
        · simp only [Act.put, LsA, LsZ, LsS, i64_w, i32_w]; rfl
        refine take_ (i := 6) (N := some 39) (v := ?_) (a' := ?_) (bA 14 2047) rfl rfl (take_ofW HT_.out HW_.out (by kernel_rfl)) (fun _ _ _ h => h) (Or.inl ⟨by rfl, ?_⟩) hHeld ?_ ?_
        rotate_left
        ·
         rintro w' ⟨s0, s1, s2, s3, s4, s5⟩
         go_simp; with_reducible rfl
        rotate_left
        · simp only [Act.put, LsA, LsZ, LsS, i64_w, i32_w]; rfl
        refine take_ (i := 11) (N := some 44) (v := ?_) (a' := ?_) (bA 14 4095) rfl rfl (take_ofW HT_.out HW_.out (by kernel_rfl)) (fun _ _ _ h => h) (Or.inl ⟨by rfl, ?_⟩) hHeld ?_ ?_
        rotate_left
        ·
         rintro w' ⟨s0, s1, s2, s3, s4, s5⟩
         go_simp; with_reducible rfl
        rotate_left
        · simp only [Act.put, LsA, LsZ, LsS, i64_w, i32_w]; rfl
        refine one_ (i := 12) (N := some 45) (bA 14 8191) rfl rfl (one_of HT_.out (by kernel_rfl)) (by decide) (fun K hK => ?_)
        refine goes_ Tryz.func69 (by kernel_rfl) rfl #[.agg #[.int .i64 ((rd_T33 y270 x9_1).f0), .string ((rd_T33 y270 x9_1).f1), .string ((rd_T33 y270 x9_1).f2)], .agg #[.int .i64 ((rd_T33 x8_1 (ji17)).f0), .string ((rd_T33 x8_1 (ji17)).f1), .string ((rd_T33 x8_1 (ji17)).f2)]] (by rfl) rfl rfl (by (try simp only [List.map_toArray, List.map_cons, List.map_nil]); first | done | (simp only [hji17]; rfl) | rfl | (simp only [List.length_drop, List.length_take]; rfl)) ?_
        with_reducible refine (belfryref04_ahead.calls ((rd_T33 y270 x9_1).f0) ((rd_T33 y270 x9_1).f1) ((rd_T33 y270 x9_1).f2) ((rd_T33 x8_1 (ji17)).f0) ((rd_T33 x8_1 (ji17)).f1) ((rd_T33 x8_1 (ji17)).f2) false _ A20.out).mono ?_
        rintro e w26 ⟨rfl, hb⟩
        have HS0_ := (hb.cell (World.block_lt_of_cell? _ _ (hHeld.1))).trans (hHeld.1); have HS1_ := (hb.cell (World.block_lt_of_cell? _ _ (hHeld.2.1))).trans (hHeld.2.1); have HS2_ := (hb.cell (World.block_lt_of_cell? _ _ (hHeld.2.2.1))).trans (hHeld.2.2.1); have HS3_ := (hb.cell (World.block_lt_of_cell? _ _ (hHeld.2.2.2.1))).trans (hHeld.2.2.2.1); have HS4_ := (hb.cell (World.block_lt_of_cell? _ _ (hHeld.2.2.2.2.1))).trans (hHeld.2.2.2.2.1); have HS5_ := (hb.cell (World.block_lt_of_cell? _ _ (hHeld.2.2.2.2.2))).trans (hHeld.2.2.2.2.2)
        refine ⟨_, rfl, ?_⟩
        have n0_ := Aside0.mk (Kd.R_below (by (with_reducible repeat (first | apply Kd.R_alloc | apply Kd.R_drewN | apply Kd.R_drew)); exact HO_6.out) hb)
        have n1_ := Aside0.mk (Kd.R_below (by (with_reducible repeat (first | apply Kd.R_alloc | apply Kd.R_drewN | apply Kd.R_drew)); exact HO_8.out) hb)
        have n2_ := Aside0.mk (below_step bO hb); clear HO_6; clear HO_8; clear HB; have HO_6 := n0_; have HO_8 := n1_; have HB := n2_; clear n0_ n1_ n2_; (try clear hb); (try clear hb2); (try clear hk); (try clear hi)
        refine hK.out _ _ ⟨HS0_, HS1_, HS2_, HS3_, HS4_, HS5_⟩ (fun hHeld => ?_)
        clear hK K
        refine norm_ (a' := ?_) ?_ ?_
        rotate_left
        ·
         show Act.put _ (some 45) _ = _
         simp only [Act.put, LsA, LsZ, LsS, i64_w, i32_w]; rfl
        refine pur 13 (some 46) (bA 14 16383) HT_ rfl rfl (by kernel_rfl) (v := ?_) (a' := ?_) (Or.inl ⟨by rfl, ?_⟩) ?_ ?_
        rotate_left
        · intro w'; go_simp; with_reducible rfl
        rotate_left
        · simp only [Act.put, LsA, LsZ, LsS, i64_w, i32_w]; rfl
        refine done_ (done_of HT_.out (by kernel_rfl)) ?_
        try go_wp2
        have n0_ := Aside0.mk (Kd.R_drew HO_6.out); have n1_ := Aside0.mk (Kd.R_drew HO_8.out); have n2_ := Aside0.mk (below_drew1 HB.out); clear HO_6; clear HO_8; clear HB; have HO_6 := n0_; have HO_8 := n1_; have HB := n2_; clear n0_ n1_ n2_
        have p277 : 0 ≤ ((ji17) : Int) := of_decide_eq_true asm
        have q277 : (ji17) < (x8_1.length : Int) := of_decide_eq_true asm
        obtain ⟨ad277, e277, hx277_0, hx277_1, hx277_2⟩ := at_T33 (Kd.R_reads' HO_8.out).2.2 (ji17) p277 q277
        obtain rfl : ad275 = ad277 := (by injection e277)
        replace p277 := eq_true p277; replace q277 := eq_true q277
        have p278 : 0 ≤ (x9_1 : Int) := of_decide_eq_true asm
        have q278 : x9_1 < (y270.length : Int) := of_decide_eq_true asm
        obtain ⟨ad278, e278, hx278_0, hx278_1, hx278_2⟩ := at_T33 (Kd.R_reads' HO_6.out).2.2 x9_1 p278 q278
        obtain rfl : ad274 = ad278 := (by injection e278)
        replace p278 := eq_true p278; replace q278 := eq_true q278
        refine start_ (n := 14) (S := fun w' => w'.cell? (ad275.add (((ji17)).toNat * 3)) = some (.int .i64 ((rd_T33 x8_1 (ji17)).f0)) ∧ w'.cell? ⟨(ad275.add (((ji17)).toNat * 3)).block, (ad275.add (((ji17)).toNat * 3)).off + 1, none⟩ = some (.string ((rd_T33 x8_1 (ji17)).f1)) ∧ w'.cell? ⟨(ad275.add (((ji17)).toNat * 3)).block, (ad275.add (((ji17)).toNat * 3)).off + 2, none⟩ = some (.string ((rd_T33 x8_1 (ji17)).f2)) ∧ w'.cell? (ad274.add ((x9_1).toNat * 3)) = some (.int .i64 ((rd_T33 y270 x9_1).f0)) ∧ w'.cell? ⟨(ad274.add ((x9_1).toNat * 3)).block, (ad274.add ((x9_1).toNat * 3)).off + 1, none⟩ = some (.string ((rd_T33 y270 x9_1).f1)) ∧ w'.cell? ⟨(ad274.add ((x9_1).toNat * 3)).block, (ad274.add ((x9_1).toNat * 3)).off + 2, none⟩ = some (.string ((rd_T33 y270 x9_1).f2))) (ds := []) (bA 14 0) (by kernel_rfl) rfl rfl ⟨hx277_0, hx277_1, hx277_2, hx278_0, hx278_1, hx278_2⟩ (fun hHeld => ?_); refine with_tabW belfryref04_Both.tab12 belfryref04_Both.bits12 (fun HT_ HW_ => ?_)
        generalize w26.drew = w27 at HO_6 HO_8 HB hx277_0 hx277_1 hx277_2 hx278_0 hx278_1 hx278_2 hHeld ⊢
        refine pur 0 (some 49) (bA 14 1) HT_ rfl rfl (by kernel_rfl) (v := ?_) (a' := ?_) (Or.inl ⟨by rfl, ?_⟩) ?_ ?_
        rotate_left
        · intro w'; go_simp; with_reducible rfl
        rotate_left
        · simp only [Act.put, LsA, LsZ, LsS, i64_w, i32_w]; rfl
        refine pur 1 (some 50) (bA 14 3) HT_ rfl rfl (by kernel_rfl) (v := ?_) (a' := ?_) (Or.inl ⟨by rfl, ?_⟩) ?_ ?_
        rotate_left
        · intro w'; go_simp; with_reducible rfl
        rotate_left
        · simp only [Act.put, LsA, LsZ, LsS, i64_w, i32_w]; rfl
        refine pur 2 (some 51) (bA 14 7) HT_ rfl rfl (by kernel_rfl) (v := ?_) (a' := ?_) (Or.inl ⟨by rfl, ?_⟩) ?_ ?_
        rotate_left
        · intro w'; go_simp; with_reducible rfl
        rotate_left
        · simp only [Act.put, LsA, LsZ, LsS, i64_w, i32_w]; rfl
        refine pur 3 (some 52) (bA 14 15) HT_ rfl rfl (by kernel_rfl) (v := ?_) (a' := ?_) (Or.inl ⟨by rfl, ?_⟩) ?_ ?_
        rotate_left
        · intro w'; go_simp; with_reducible rfl
        rotate_left
        · simp only [Act.put, LsA, LsZ, LsS, i64_w, i32_w]; rfl
        refine pur 4 (some 53) (bA 14 31) HT_ rfl rfl (by kernel_rfl) (v := ?_) (a' := ?_) (Or.inl ⟨by rfl, ?_⟩) ?_ ?_
        rotate_left
        · intro w'; go_simp; with_reducible rfl
        rotate_left
        · simp only [Act.put, LsA, LsZ, LsS, i64_w, i32_w]; rfl
        refine pur 5 (some 54) (bA 14 63) HT_ rfl rfl (by kernel_rfl) (v := ?_) (a' := ?_) (Or.inl ⟨by rfl, ?_⟩) ?_ ?_
        rotate_left
        · intro w'; go_simp; with_reducible rfl
        rotate_left
        · simp only [Act.put, LsA, LsZ, LsS, i64_w, i32_w]; rfl
        refine pur 6 (some 55) (bA 14 127) HT_ rfl rfl (by kernel_rfl) (v := ?_) (a' := ?_) (Or.inl ⟨by rfl, ?_⟩) ?_ ?_
        rotate_left
        · intro w'; go_simp; with_reducible rfl
        rotate_left
        · simp only [Act.put, LsA, LsZ, LsS, i64_w, i32_w]; rfl
        refine pur 8 (some 57) (bA 14 383) HT_ rfl rfl (by kernel_rfl) (v := ?_) (a' := ?_) (Or.inl ⟨by rfl, ?_⟩) ?_ ?_
        rotate_left
        · intro w'; go_simp; with_reducible rfl
        rotate_left
        · simp only [Act.put, LsA, LsZ, LsS, i64_w, i32_w]; rfl
        refine pur 9 (some 58) (bA 14 895) HT_ rfl rfl (by kernel_rfl) (v := ?_) (a' := ?_) (Or.inl ⟨by rfl, ?_⟩) ?_ ?_
        rotate_left
        · intro w'; go_simp; with_reducible rfl
        rotate_left
        · simp only [Act.put, LsA, LsZ, LsS, i64_w, i32_w]; rfl
        refine pur 10 (some 59) (bA 14 1919) HT_ rfl rfl (by kernel_rfl) (v := ?_) (a' := ?_) (Or.inl ⟨by rfl, ?_⟩) ?_ ?_
        rotate_left
        · intro w'; go_simp; with_reducible rfl
        rotate_left
        · simp only [Act.put, LsA, LsZ, LsS, i64_w, i32_w]; rfl
        refine take_ (i := 7) (N := some 56) (v := ?_) (a' := ?_) (bA 14 2047) rfl rfl (take_ofW HT_.out HW_.out (by kernel_rfl)) (fun _ _ _ h => h) (Or.inl ⟨by rfl, ?_⟩) hHeld ?_ ?_
        rotate_left
        ·
         rintro w' ⟨s0, s1, s2, s3, s4, s5⟩
         go_simp; with_reducible rfl
        rotate_left
        · simp only [Act.put, LsA, LsZ, LsS, i64_w, i32_w]; rfl
        refine take_ (i := 11) (N := some 60) (v := ?_) (a' := ?_) (bA 14 4095) rfl rfl (take_ofW HT_.out HW_.out (by kernel_rfl)) (fun _ _ _ h => h) (Or.inl ⟨by rfl, ?_⟩) hHeld ?_ ?_
        rotate_left
        ·
         rintro w' ⟨s0, s1, s2, s3, s4, s5⟩
         go_simp; with_reducible rfl
        rotate_left
        · simp only [Act.put, LsA, LsZ, LsS, i64_w, i32_w]; rfl
        refine pur 12 (some 61) (bA 14 8191) HT_ rfl rfl (by kernel_rfl) (v := ?_) (a' := ?_) (Or.inl ⟨by rfl, ?_⟩) ?_ ?_
        rotate_left
        · intro w'; go_simp; with_reducible rfl
        rotate_left
        · simp only [Act.put, LsA, LsZ, LsS, i64_w, i32_w]; rfl
        refine pur 13 (some 62) (bA 14 16383) HT_ rfl rfl (by kernel_rfl) (v := ?_) (a' := ?_) (Or.inl ⟨by rfl, ?_⟩) ?_ ?_
        rotate_left
        · intro w'; go_simp; with_reducible rfl
        rotate_left
        · simp only [Act.put, LsA, LsZ, LsS, i64_w, i32_w]; rfl
        refine done_ (done_of HT_.out (by kernel_rfl)) ?_
        try go_wp2
        go_roundg k3
        case measure => have := HK1.out; have := HJ8.out; have := HK3.out; omega
        case rel => exact ⟨(x8_1), (wrap64 (x9_1 + 1)), sR, H', ⟨by have := HK1.out; have := HJ8.out; have := HK3.out; omega⟩, ⟨by (with_reducible repeat (first | apply Kd.R_alloc | apply Kd.R_drewN | apply Kd.R_drew)); exact HO_6.out⟩, ⟨by (with_reducible repeat (first | apply Kd.R_alloc | apply Kd.R_drewN | apply Kd.R_drew)); exact HO_8.out⟩, ⟨bO⟩⟩
       rw [if_neg c24] at H
       have c24b0 : (((rd_T33 x8_1 (ji17)).f0) == ((rd_T33 y270 x9_1).f0) && ((((rd_T33 x8_1 (ji17)).f1).toList) == (((rd_T33 y270 x9_1).f1).toList) && ((((rd_T33 x8_1 (ji17)).f2).toList) == (((rd_T33 y270 x9_1).f2).toList)))) = false := by simpa using c24
       (try (have c24b1 : decide (((rd_T33 x8_1 (ji17)).f0) = ((rd_T33 y270 x9_1).f0) && ((((rd_T33 x8_1 (ji17)).f1).toList) == (((rd_T33 y270 x9_1).f1).toList) && ((((rd_T33 x8_1 (ji17)).f2).toList) == (((rd_T33 y270 x9_1).f2).toList)))) = false := by simpa using c24))
       (try (have c24b2 : (((rd_T33 x8_1 (ji17)).f0) == ((rd_T33 y270 x9_1).f0) && ((((rd_T33 x8_1 (ji17)).f1).toList) == (((rd_T33 y270 x9_1).f1).toList) && ((((rd_T33 x8_1 (ji17)).f2).toList) == (((rd_T33 y270 x9_1).f2).toList)))) = false := by simpa using c24))
       (try (have c24b3 : ¬ (((rd_T33 x8_1 (ji17)).f0) = ((rd_T33 y270 x9_1).f0) && ((((rd_T33 x8_1 (ji17)).f1).toList) == (((rd_T33 y270 x9_1).f1).toList) && ((((rd_T33 x8_1 (ji17)).f2).toList) == (((rd_T33 y270 x9_1).f2).toList)))) := by simpa using c24))
       clear c24; by_cases c28 : 0 ≤ x10_3; rotate_left
       · rw [if_neg c28] at H; exact absurd H (by simp)
       rw [if_pos c28] at H; have c28b0 := eq_true c28
       have c28b1 : decide (0 ≤ x10_3) = true := decide_eq_true c28
       clear c28; by_cases c29 : x10_3 ≤ (x8_1.length : Int); rotate_left
       · rw [if_neg c29] at H; exact absurd H (by simp)
       rw [if_pos c29] at H; have c29b0 := eq_true c29
       have c29b1 : decide (x10_3 ≤ (x8_1.length : Int)) = true := decide_eq_true c29
       clear c29
       obtain ⟨y279, hy279⟩ : ∃ y_ : List (S33), y_ = (x8_1.take (x10_3 : Int).toNat) := ⟨_, rfl⟩
       replace H : (if ([] : List (S33)).length + y279.length < 3518437208883 then ((some (([] : List (S33)) ++ y279 : List (S33))).bind fun y283 => (if y283.length < 3518437208883 then ((some (y283 ++ [(⟨(rd_T33 y270 x9_1).f0, (rd_T33 y270 x9_1).f1, (rd_T33 y270 x9_1).f2⟩ : S33)] : List (S33))).bind fun y287 => ((some (x8_1.drop (x10_3 : Int).toNat : List (S33))).bind fun y290 => (if y287.length + y290.length < 3518437208883 then (belfryref04_Both.l0 k3 y270 t273 (y287 ++ y290) (wrap64 (x9_1 + 1))) else (none)))) else (none))) else (none)) = some (r1, r2) := by first | (rw [hy279]; with_reducible exact H) | (have H2_ := (Option.bind_some _ _).symm.trans H; rw [hy279]; with_reducible exact H2_) | (have H2_ := (Option.bind_some _ _).symm.trans H; with_reducible exact H2_) | with_reducible exact H | (rw [hy279]; exact H) | exact H
       have Ny279 := Aside0.mk hy279; clear hy279; by_cases c30 : ([] : List (S33)).length + y279.length < 3518437208883; rotate_left
       · rw [if_neg c30] at H; exact absurd H (by simp)
       rw [if_pos c30] at H; have LMc30 := Aside0.mk c30; clear c30
       obtain ⟨y283, hy283⟩ : ∃ y_ : List (S33), y_ = (([] : List (S33)) ++ y279) := ⟨_, rfl⟩
       replace H : (if y283.length < 3518437208883 then ((some (y283 ++ [(⟨(rd_T33 y270 x9_1).f0, (rd_T33 y270 x9_1).f1, (rd_T33 y270 x9_1).f2⟩ : S33)] : List (S33))).bind fun y287 => ((some (x8_1.drop (x10_3 : Int).toNat : List (S33))).bind fun y290 => (if y287.length + y290.length < 3518437208883 then (belfryref04_Both.l0 k3 y270 t273 (y287 ++ y290) (wrap64 (x9_1 + 1))) else (none)))) else (none)) = some (r1, r2) := by first | (rw [hy283]; with_reducible exact H) | (have H2_ := (Option.bind_some _ _).symm.trans H; rw [hy283]; with_reducible exact H2_) | (have H2_ := (Option.bind_some _ _).symm.trans H; with_reducible exact H2_) | with_reducible exact H | (rw [hy283]; exact H) | exact H
       have Ny283 := Aside0.mk hy283; clear hy283; by_cases c31 : y283.length < 3518437208883; rotate_left
       · rw [if_neg c31] at H; exact absurd H (by simp)
       rw [if_pos c31] at H; have LMc31 := Aside0.mk c31; clear c31
       obtain ⟨y287, hy287⟩ : ∃ y_ : List (S33), y_ = (y283 ++ [(⟨(rd_T33 y270 x9_1).f0, (rd_T33 y270 x9_1).f1, (rd_T33 y270 x9_1).f2⟩ : S33)]) := ⟨_, rfl⟩
       replace H : ((some (x8_1.drop (x10_3 : Int).toNat : List (S33))).bind fun y290 => (if y287.length + y290.length < 3518437208883 then (belfryref04_Both.l0 k3 y270 t273 (y287 ++ y290) (wrap64 (x9_1 + 1))) else (none))) = some (r1, r2) := by first | (rw [hy287]; with_reducible exact H) | (have H2_ := (Option.bind_some _ _).symm.trans H; rw [hy287]; with_reducible exact H2_) | (have H2_ := (Option.bind_some _ _).symm.trans H; with_reducible exact H2_) | with_reducible exact H | (rw [hy287]; exact H) | exact H
       have Ny287 := Aside0.mk hy287; clear hy287; have c32b0 := eq_true (of_decide_eq_true asm : 0 ≤ x10_3); have c33b0 := eq_true (of_decide_eq_true asm : x10_3 ≤ (x8_1.length : Int))
       obtain ⟨y290, hy290⟩ : ∃ y_ : List (S33), y_ = (x8_1.drop (x10_3 : Int).toNat) := ⟨_, rfl⟩
       replace H : (if y287.length + y290.length < 3518437208883 then (belfryref04_Both.l0 k3 y270 t273 (y287 ++ y290) (wrap64 (x9_1 + 1))) else (none)) = some (r1, r2) := by first | (rw [hy290]; with_reducible exact H) | (have H2_ := (Option.bind_some _ _).symm.trans H; rw [hy290]; with_reducible exact H2_) | (have H2_ := (Option.bind_some _ _).symm.trans H; with_reducible exact H2_) | with_reducible exact H | (rw [hy290]; exact H) | exact H
       have Ny290 := Aside0.mk hy290; clear hy290; by_cases c34 : y287.length + y290.length < 3518437208883; rotate_left
       · rw [if_neg c34] at H; exact absurd H (by simp)
       rw [if_pos c34] at H; have LMc34 := Aside0.mk c34; clear c34
       obtain ⟨y294, hy294⟩ : ∃ y_ : List (S33), y_ = (y287 ++ y290) := ⟨_, rfl⟩
       replace H : (belfryref04_Both.l0 k3 y270 t273 y294 (wrap64 (x9_1 + 1))) = some (r1, r2) := by first | (rw [hy294]; with_reducible exact H) | (have H2_ := (Option.bind_some _ _).symm.trans H; rw [hy294]; with_reducible exact H2_) | (have H2_ := (Option.bind_some _ _).symm.trans H; with_reducible exact H2_) | with_reducible exact H | (rw [hy294]; exact H) | exact H
       have Ny294 := Aside0.mk hy294; clear hy294; have H' := Aside0.mk H; clear H
       try go_wp2
       have n0_ := Aside0.mk (Kd.R_drew HO_6.out); have n1_ := Aside0.mk (Kd.R_drew HO_8.out); have n2_ := Aside0.mk (below_drew1 HB.out); clear HO_6; clear HO_8; clear HB; have HO_6 := n0_; have HO_8 := n1_; have HB := n2_; clear n0_ n1_ n2_
       have p274 : 0 ≤ (x9_1 : Int) := of_decide_eq_true asm
       have q274 : x9_1 < (y270.length : Int) := of_decide_eq_true asm
       obtain ⟨ad274, e274, hx274_0, hx274_1, hx274_2⟩ := at_T33 (Kd.R_reads' HO_6.out).2.2 x9_1 p274 q274
       cases e274; replace p274 := eq_true p274; replace q274 := eq_true q274
       have p275 : 0 ≤ ((ji17) : Int) := of_decide_eq_true asm
       have q275 : (ji17) < (x8_1.length : Int) := of_decide_eq_true asm
       obtain ⟨ad275, e275, hx275_0, hx275_1, hx275_2⟩ := at_T33 (Kd.R_reads' HO_8.out).2.2 (ji17) p275 q275
       cases e275; replace p275 := eq_true p275; replace q275 := eq_true q275
       refine start_ (n := 14) (S := fun w' => w'.cell? (ad274.add ((x9_1).toNat * 3)) = some (.int .i64 ((rd_T33 y270 x9_1).f0)) ∧ w'.cell? ⟨(ad274.add ((x9_1).toNat * 3)).block, (ad274.add ((x9_1).toNat * 3)).off + 1, none⟩ = some (.string ((rd_T33 y270 x9_1).f1)) ∧ w'.cell? ⟨(ad274.add ((x9_1).toNat * 3)).block, (ad274.add ((x9_1).toNat * 3)).off + 2, none⟩ = some (.string ((rd_T33 y270 x9_1).f2)) ∧ w'.cell? (ad275.add (((ji17)).toNat * 3)) = some (.int .i64 ((rd_T33 x8_1 (ji17)).f0)) ∧ w'.cell? ⟨(ad275.add (((ji17)).toNat * 3)).block, (ad275.add (((ji17)).toNat * 3)).off + 1, none⟩ = some (.string ((rd_T33 x8_1 (ji17)).f1)) ∧ w'.cell? ⟨(ad275.add (((ji17)).toNat * 3)).block, (ad275.add (((ji17)).toNat * 3)).off + 2, none⟩ = some (.string ((rd_T33 x8_1 (ji17)).f2))) (ds := []) (bA 14 0) (by kernel_rfl) rfl rfl ⟨hx274_0, hx274_1, hx274_2, hx275_0, hx275_1, hx275_2⟩ (fun hHeld => ?_); refine with_tabW belfryref04_Both.tab10 belfryref04_Both.bits10 (fun HT_ HW_ => ?_)
       generalize wr.drew = w35 at HO_6 HO_8 HB hx274_0 hx274_1 hx274_2 hx275_0 hx275_1 hx275_2 hHeld ⊢
       refine pur 0 (some 33) (bA 14 1) HT_ rfl rfl (by kernel_rfl) (v := ?_) (a' := ?_) (Or.inl ⟨by rfl, ?_⟩) ?_ ?_
       rotate_left
       · intro w'; go_simp; with_reducible rfl
       rotate_left
       · simp only [Act.put, LsA, LsZ, LsS, i64_w, i32_w]; rfl
       refine pur 1 (some 34) (bA 14 3) HT_ rfl rfl (by kernel_rfl) (v := ?_) (a' := ?_) (Or.inl ⟨by rfl, ?_⟩) ?_ ?_
       rotate_left
       · intro w'; go_simp; with_reducible rfl
       rotate_left
       · simp only [Act.put, LsA, LsZ, LsS, i64_w, i32_w]; rfl
       refine pur 2 (some 35) (bA 14 7) HT_ rfl rfl (by kernel_rfl) (v := ?_) (a' := ?_) (Or.inl ⟨by rfl, ?_⟩) ?_ ?_
       rotate_left
       · intro w'; go_simp; with_reducible rfl
       rotate_left
       · simp only [Act.put, LsA, LsZ, LsS, i64_w, i32_w]; rfl
       refine pur 3 (some 36) (bA 14 15) HT_ rfl rfl (by kernel_rfl) (v := ?_) (a' := ?_) (Or.inl ⟨by rfl, ?_⟩) ?_ ?_
       rotate_left
       · intro w'; go_simp; with_reducible rfl
       rotate_left
       · simp only [Act.put, LsA, LsZ, LsS, i64_w, i32_w]; rfl
       refine pur 4 (some 37) (bA 14 31) HT_ rfl rfl (by kernel_rfl) (v := ?_) (a' := ?_) (Or.inl ⟨by rfl, ?_⟩) ?_ ?_
       rotate_left
       · intro w'; go_simp; with_reducible rfl
       rotate_left
       · simp only [Act.put, LsA, LsZ, LsS, i64_w, i32_w]; rfl
       refine pur 5 (some 38) (bA 14 63) HT_ rfl rfl (by kernel_rfl) (v := ?_) (a' := ?_) (Or.inl ⟨by rfl, ?_⟩) ?_ ?_
       rotate_left
       · intro w'; go_simp; with_reducible rfl
       rotate_left
       · simp only [Act.put, LsA, LsZ, LsS, i64_w, i32_w]; rfl
       refine pur 7 (some 40) (bA 14 191) HT_ rfl rfl (by kernel_rfl) (v := ?_) (a' := ?_) (Or.inl ⟨by rfl, ?_⟩) ?_ ?_
       rotate_left
       · intro w'; go_simp; with_reducible rfl
       rotate_left
       · simp only [Act.put, LsA, LsZ, LsS, i64_w, i32_w]; rfl
       refine pur 8 (some 41) (bA 14 447) HT_ rfl rfl (by kernel_rfl) (v := ?_) (a' := ?_) (Or.inl ⟨by rfl, ?_⟩) ?_ ?_
       rotate_left
       · intro w'; go_simp; with_reducible rfl
       rotate_left
       · simp only [Act.put, LsA, LsZ, LsS, i64_w, i32_w]; rfl
       refine pur 9 (some 42) (bA 14 959) HT_ rfl rfl (by kernel_rfl) (v := ?_) (a' := ?_) (Or.inl ⟨by rfl, ?_⟩) ?_ ?_
       rotate_left
       · intro w'; go_simp; with_reducible rfl
       rotate_left
       · simp only [Act.put, LsA, LsZ, LsS, i64_w, i32_w]; rfl
       refine pur 10 (some 43) (bA 14 1983) HT_ rfl rfl (by kernel_rfl) (v := ?_) (a' := ?_) (Or.inl ⟨by rfl, ?_⟩) ?_ ?_
       rotate_left
       · intro w'; go_simp; with_reducible rfl
       rotate_left
       · simp only [Act.put, LsA, LsZ, LsS, i64_w, i32_w]; rfl
       refine take_ (i := 6) (N := some 39) (v := ?_) (a' := ?_) (bA 14 2047) rfl rfl (take_ofW HT_.out HW_.out (by kernel_rfl)) (fun _ _ _ h => h) (Or.inl ⟨by rfl, ?_⟩) hHeld ?_ ?_
       rotate_left
       ·
        rintro w' ⟨s0, s1, s2, s3, s4, s5⟩
        go_simp; with_reducible rfl
       rotate_left
       · simp only [Act.put, LsA, LsZ, LsS, i64_w, i32_w]; rfl
       refine take_ (i := 11) (N := some 44) (v := ?_) (a' := ?_) (bA 14 4095) rfl rfl (take_ofW HT_.out HW_.out (by kernel_rfl)) (fun _ _ _ h => h) (Or.inl ⟨by rfl, ?_⟩) hHeld ?_ ?_
       rotate_left
       ·
        rintro w' ⟨s0, s1, s2, s3, s4, s5⟩
        go_simp; with_reducible rfl
       rotate_left
       · simp only [Act.put, LsA, LsZ, LsS, i64_w, i32_w]; rfl
       refine one_ (i := 12) (N := some 45) (bA 14 8191) rfl rfl (one_of HT_.out (by kernel_rfl)) (by decide) (fun K hK => ?_)
       refine goes_ Tryz.func69 (by kernel_rfl) rfl #[.agg #[.int .i64 ((rd_T33 y270 x9_1).f0), .string ((rd_T33 y270 x9_1).f1), .string ((rd_T33 y270 x9_1).f2)], .agg #[.int .i64 ((rd_T33 x8_1 (ji17)).f0), .string ((rd_T33 x8_1 (ji17)).f1), .string ((rd_T33 x8_1 (ji17)).f2)]] (by rfl) rfl rfl (by (try simp only [List.map_toArray, List.map_cons, List.map_nil]); first | done | (simp only [hji17]; rfl) | rfl | (simp only [List.length_drop, List.length_take]; rfl)) ?_
       with_reducible refine (belfryref04_ahead.calls ((rd_T33 y270 x9_1).f0) ((rd_T33 y270 x9_1).f1) ((rd_T33 y270 x9_1).f2) ((rd_T33 x8_1 (ji17)).f0) ((rd_T33 x8_1 (ji17)).f1) ((rd_T33 x8_1 (ji17)).f2) false _ A20.out).mono ?_
       rintro e w36 ⟨rfl, hb⟩
       have HS0_ := (hb.cell (World.block_lt_of_cell? _ _ (hHeld.1))).trans (hHeld.1); have HS1_ := (hb.cell (World.block_lt_of_cell? _ _ (hHeld.2.1))).trans (hHeld.2.1); have HS2_ := (hb.cell (World.block_lt_of_cell? _ _ (hHeld.2.2.1))).trans (hHeld.2.2.1); have HS3_ := (hb.cell (World.block_lt_of_cell? _ _ (hHeld.2.2.2.1))).trans (hHeld.2.2.2.1); have HS4_ := (hb.cell (World.block_lt_of_cell? _ _ (hHeld.2.2.2.2.1))).trans (hHeld.2.2.2.2.1); have HS5_ := (hb.cell (World.block_lt_of_cell? _ _ (hHeld.2.2.2.2.2))).trans (hHeld.2.2.2.2.2)
       refine ⟨_, rfl, ?_⟩
       have n0_ := Aside0.mk (Kd.R_below (by (with_reducible repeat (first | apply Kd.R_alloc | apply Kd.R_drewN | apply Kd.R_drew)); exact HO_6.out) hb)
       have n1_ := Aside0.mk (Kd.R_below (by (with_reducible repeat (first | apply Kd.R_alloc | apply Kd.R_drewN | apply Kd.R_drew)); exact HO_8.out) hb)
       have n2_ := Aside0.mk (below_step bO hb); clear HO_6; clear HO_8; clear HB; have HO_6 := n0_; have HO_8 := n1_; have HB := n2_; clear n0_ n1_ n2_; (try clear hb); (try clear hb2); (try clear hk); (try clear hi)
       refine hK.out _ _ ⟨HS0_, HS1_, HS2_, HS3_, HS4_, HS5_⟩ (fun hHeld => ?_)
       clear hK K
       refine norm_ (a' := ?_) ?_ ?_
       rotate_left
       ·
        show Act.put _ (some 45) _ = _
        simp only [Act.put, LsA, LsZ, LsS, i64_w, i32_w]; rfl
       refine pur 13 (some 46) (bA 14 16383) HT_ rfl rfl (by kernel_rfl) (v := ?_) (a' := ?_) (Or.inl ⟨by rfl, ?_⟩) ?_ ?_
       rotate_left
       · intro w'; go_simp; with_reducible rfl
       rotate_left
       · simp only [Act.put, LsA, LsZ, LsS, i64_w, i32_w]; rfl
       refine done_ (done_of HT_.out (by kernel_rfl)) ?_
       try go_wp2
       have n0_ := Aside0.mk (Kd.R_drew HO_6.out); have n1_ := Aside0.mk (Kd.R_drew HO_8.out); have n2_ := Aside0.mk (below_drew1 HB.out); clear HO_6; clear HO_8; clear HB; have HO_6 := n0_; have HO_8 := n1_; have HB := n2_; clear n0_ n1_ n2_
       have p277 : 0 ≤ ((ji17) : Int) := of_decide_eq_true asm
       have q277 : (ji17) < (x8_1.length : Int) := of_decide_eq_true asm
       obtain ⟨ad277, e277, hx277_0, hx277_1, hx277_2⟩ := at_T33 (Kd.R_reads' HO_8.out).2.2 (ji17) p277 q277
       obtain rfl : ad275 = ad277 := (by injection e277)
       replace p277 := eq_true p277; replace q277 := eq_true q277
       have p278 : 0 ≤ (x9_1 : Int) := of_decide_eq_true asm
       have q278 : x9_1 < (y270.length : Int) := of_decide_eq_true asm
       obtain ⟨ad278, e278, hx278_0, hx278_1, hx278_2⟩ := at_T33 (Kd.R_reads' HO_6.out).2.2 x9_1 p278 q278
       obtain rfl : ad274 = ad278 := (by injection e278)
       replace p278 := eq_true p278; replace q278 := eq_true q278
       refine start_ (n := 14) (S := fun w' => w'.cell? (ad275.add (((ji17)).toNat * 3)) = some (.int .i64 ((rd_T33 x8_1 (ji17)).f0)) ∧ w'.cell? ⟨(ad275.add (((ji17)).toNat * 3)).block, (ad275.add (((ji17)).toNat * 3)).off + 1, none⟩ = some (.string ((rd_T33 x8_1 (ji17)).f1)) ∧ w'.cell? ⟨(ad275.add (((ji17)).toNat * 3)).block, (ad275.add (((ji17)).toNat * 3)).off + 2, none⟩ = some (.string ((rd_T33 x8_1 (ji17)).f2)) ∧ w'.cell? (ad274.add ((x9_1).toNat * 3)) = some (.int .i64 ((rd_T33 y270 x9_1).f0)) ∧ w'.cell? ⟨(ad274.add ((x9_1).toNat * 3)).block, (ad274.add ((x9_1).toNat * 3)).off + 1, none⟩ = some (.string ((rd_T33 y270 x9_1).f1)) ∧ w'.cell? ⟨(ad274.add ((x9_1).toNat * 3)).block, (ad274.add ((x9_1).toNat * 3)).off + 2, none⟩ = some (.string ((rd_T33 y270 x9_1).f2))) (ds := []) (bA 14 0) (by kernel_rfl) rfl rfl ⟨hx277_0, hx277_1, hx277_2, hx278_0, hx278_1, hx278_2⟩ (fun hHeld => ?_); refine with_tabW belfryref04_Both.tab12 belfryref04_Both.bits12 (fun HT_ HW_ => ?_)
       generalize w36.drew = w37 at HO_6 HO_8 HB hx277_0 hx277_1 hx277_2 hx278_0 hx278_1 hx278_2 hHeld ⊢
       refine pur 0 (some 49) (bA 14 1) HT_ rfl rfl (by kernel_rfl) (v := ?_) (a' := ?_) (Or.inl ⟨by rfl, ?_⟩) ?_ ?_
       rotate_left
       · intro w'; go_simp; with_reducible rfl
       rotate_left
       · simp only [Act.put, LsA, LsZ, LsS, i64_w, i32_w]; rfl
       refine pur 1 (some 50) (bA 14 3) HT_ rfl rfl (by kernel_rfl) (v := ?_) (a' := ?_) (Or.inl ⟨by rfl, ?_⟩) ?_ ?_
       rotate_left
       · intro w'; go_simp; with_reducible rfl
       rotate_left
       · simp only [Act.put, LsA, LsZ, LsS, i64_w, i32_w]; rfl
       refine pur 2 (some 51) (bA 14 7) HT_ rfl rfl (by kernel_rfl) (v := ?_) (a' := ?_) (Or.inl ⟨by rfl, ?_⟩) ?_ ?_
       rotate_left
       · intro w'; go_simp; with_reducible rfl
       rotate_left
       · simp only [Act.put, LsA, LsZ, LsS, i64_w, i32_w]; rfl
       refine pur 3 (some 52) (bA 14 15) HT_ rfl rfl (by kernel_rfl) (v := ?_) (a' := ?_) (Or.inl ⟨by rfl, ?_⟩) ?_ ?_
       rotate_left
       · intro w'; go_simp; with_reducible rfl
       rotate_left
       · simp only [Act.put, LsA, LsZ, LsS, i64_w, i32_w]; rfl
       refine pur 4 (some 53) (bA 14 31) HT_ rfl rfl (by kernel_rfl) (v := ?_) (a' := ?_) (Or.inl ⟨by rfl, ?_⟩) ?_ ?_
       rotate_left
       · intro w'; go_simp; with_reducible rfl
       rotate_left
       · simp only [Act.put, LsA, LsZ, LsS, i64_w, i32_w]; rfl
       refine pur 5 (some 54) (bA 14 63) HT_ rfl rfl (by kernel_rfl) (v := ?_) (a' := ?_) (Or.inl ⟨by rfl, ?_⟩) ?_ ?_
       rotate_left
       · intro w'; go_simp; with_reducible rfl
       rotate_left
       · simp only [Act.put, LsA, LsZ, LsS, i64_w, i32_w]; rfl
       refine pur 6 (some 55) (bA 14 127) HT_ rfl rfl (by kernel_rfl) (v := ?_) (a' := ?_) (Or.inl ⟨by rfl, ?_⟩) ?_ ?_
       rotate_left
       · intro w'; go_simp; with_reducible rfl
       rotate_left
       · simp only [Act.put, LsA, LsZ, LsS, i64_w, i32_w]; rfl
       refine pur 8 (some 57) (bA 14 383) HT_ rfl rfl (by kernel_rfl) (v := ?_) (a' := ?_) (Or.inl ⟨by rfl, ?_⟩) ?_ ?_
       rotate_left
       · intro w'; go_simp; with_reducible rfl
       rotate_left
       · simp only [Act.put, LsA, LsZ, LsS, i64_w, i32_w]; rfl
       refine pur 9 (some 58) (bA 14 895) HT_ rfl rfl (by kernel_rfl) (v := ?_) (a' := ?_) (Or.inl ⟨by rfl, ?_⟩) ?_ ?_
       rotate_left
       · intro w'; go_simp; with_reducible rfl
       rotate_left
       · simp only [Act.put, LsA, LsZ, LsS, i64_w, i32_w]; rfl
       refine pur 10 (some 59) (bA 14 1919) HT_ rfl rfl (by kernel_rfl) (v := ?_) (a' := ?_) (Or.inl ⟨by rfl, ?_⟩) ?_ ?_
       rotate_left
       · intro w'; go_simp; with_reducible rfl
       rotate_left
       · simp only [Act.put, LsA, LsZ, LsS, i64_w, i32_w]; rfl
       refine take_ (i := 7) (N := some 56) (v := ?_) (a' := ?_) (bA 14 2047) rfl rfl (take_ofW HT_.out HW_.out (by kernel_rfl)) (fun _ _ _ h => h) (Or.inl ⟨by rfl, ?_⟩) hHeld ?_ ?_
       rotate_left
       ·
        rintro w' ⟨s0, s1, s2, s3, s4, s5⟩
        go_simp; with_reducible rfl
       rotate_left
       · simp only [Act.put, LsA, LsZ, LsS, i64_w, i32_w]; rfl
       refine take_ (i := 11) (N := some 60) (v := ?_) (a' := ?_) (bA 14 4095) rfl rfl (take_ofW HT_.out HW_.out (by kernel_rfl)) (fun _ _ _ h => h) (Or.inl ⟨by rfl, ?_⟩) hHeld ?_ ?_
       rotate_left
       ·
        rintro w' ⟨s0, s1, s2, s3, s4, s5⟩
        go_simp; with_reducible rfl
       rotate_left
       · simp only [Act.put, LsA, LsZ, LsS, i64_w, i32_w]; rfl
       refine pur 12 (some 61) (bA 14 8191) HT_ rfl rfl (by kernel_rfl) (v := ?_) (a' := ?_) (Or.inl ⟨by rfl, ?_⟩) ?_ ?_
       rotate_left
       · intro w'; go_simp; with_reducible rfl
       rotate_left
       · simp only [Act.put, LsA, LsZ, LsS, i64_w, i32_w]; rfl
       refine pur 13 (some 62) (bA 14 16383) HT_ rfl rfl (by kernel_rfl) (v := ?_) (a' := ?_) (Or.inl ⟨by rfl, ?_⟩) ?_ ?_
       rotate_left
       · intro w'; go_simp; with_reducible rfl
       rotate_left
       · simp only [Act.put, LsA, LsZ, LsS, i64_w, i32_w]; rfl
       refine done_ (done_of HT_.out (by kernel_rfl)) ?_
       have q38 : (x10_3 : Int) ≤ ((x8_1.length : Int) : Int) := of_decide_eq_true asm
       obtain ⟨i038, hi038, _, hsz38, _⟩ := info_parts info33
       have hroom38 : x8_1.length ≤ co13 := (Kd.R_reads' HO_8.out).2.1
       have hC38 : Kd.C k33 _ (some ad275) x8_1.length x8_1 := (Kd.R_reads' HO_8.out).2.2
       have hcut38 := cut_to (P := Tryz.prog) 28 33 .i64 Tryz.underlying28 hi038 (some ad275) x8_1.length co13 x10_3 (of_decide_eq_true asm) q38 hroom38; have hr38 := Kd.C_take (m := (x10_3 : Int).toNat) hC38 (by omega)
       have hy38 : y279.length = (x10_3 : Int).toNat := (by rw [Ny279.out, List.length_take]; omega)
       rw [← Ny279.out] at hr38; rw [← hy38] at hcut38; have HR282 := Aside0.mk hr38
       have HC282 := Aside0.mk (show y279.length ≤ co13 from by omega)
       clear hr38 hC38 hroom38 hi038 hsz38; have KY38 := Aside0.mk hy38; clear hy38
       have KL38 := Aside0.mk (show (x10_3 : Int).toNat ≤ x8_1.length from by omega)
       replace q38 := eq_true q38
       try go_wp2_with (first | ((with_reducible refine gate_builtin (b := .append) (xs := #[.tmp 63, .tmp 66]) rfl ?_); (try (refine gate_guard (by rfl) ?_; dsimp only)); at_builtin; refine Kd.R_append_rows k33 (w0 := w) w.heap.size rfl (.tmp 63) (.tmp 66) 28 33 (.agg #[(.int .i64 0), (.string ⟨#[]⟩), (.string ⟨#[]⟩)]) 40 rfl Tryz.underlying28 info33 rfl (by decide) (by omega) (.slice none 0 0) ([] : List (S33)) y279 _ _ _ (fun k_ => some k_ ≠ (.slice (some ad274) y270.length co8 : Value).ownBlock ∧ some k_ ≠ (.slice (some ad275) x8_1.length co13 : Value).ownBlock) (fun _ => False) rfl rfl ?aO ?aR (fun _ _ h => h) (fun _ h => h.elim) ?aF ?aB ?aS ?aL ?_; (case aR => repeat (first | exact (by repeat (first | (with_reducible exact HR282.out) | (with_reducible refine Kd.C_alloc ?_ _) | (with_reducible refine Kd.C_drewN ?_ _) | (with_reducible refine Kd.C_drew ?_) | exact HR282.out)) | (with_reducible refine Kd.C_alloc ?_ _) | (with_reducible refine Kd.C_drewN ?_ _) | (with_reducible refine Kd.C_drew ?_))); (case aB => exact bO); (case aF => exact (fun k_ hk => ⟨Kd.fresh' (Kd.R_lt (by (with_reducible repeat (first | apply Kd.R_alloc | apply Kd.R_drewN | apply Kd.R_drew)); exact HO_6.out)) k_ hk, Kd.fresh' (Kd.R_lt (by (with_reducible repeat (first | apply Kd.R_alloc | apply Kd.R_drewN | apply Kd.R_drew)); exact HO_8.out)) k_ hk⟩)); (case aO => exact ((Kd.R_nil _ _ _ _ (fun k_ => some k_ ≠ (.slice (some ad274) y270.length co8 : Value).ownBlock ∧ some k_ ≠ (.slice (some ad275) x8_1.length co13 : Value).ownBlock)))); (case aS => exact (below_size bO)); (case aL => have := LMc30.out; omega); intro v284 w39 ho hb hg hat; rw [← Ny283.out] at ho; have n0_ := Aside0.mk (Kd.R_after (Kd.R_apart_nil (by (with_reducible repeat (first | apply Kd.R_alloc | apply Kd.R_drewN | apply Kd.R_drew)); exact HO_6.out)) hg hat); have n1_ := Aside0.mk (Kd.R_after (Kd.R_apart_nil (by (with_reducible repeat (first | apply Kd.R_alloc | apply Kd.R_drewN | apply Kd.R_drew)); exact HO_8.out)) hg hat); have n2_ := Aside0.mk (hb); have n3_ := Aside0.mk ((show Kd.C k33 w39 (some ad275) y279.length y279 from by rw [Ny279.out]; exact Kd.C_take (m := (x10_3 : Int).toNat) ((Kd.R_reads' (Kd.R_after (Kd.R_apart_nil (by (with_reducible repeat (first | apply Kd.R_alloc | apply Kd.R_drewN | apply Kd.R_drew)); exact HO_8.out)) hg hat)).2.2) KL38.out)); have n4_ := Aside0.mk (ho); clear HO_6; clear HO_8; clear HB; clear HR282; have HO_6 := n0_; have HO_8 := n1_; have HB := n2_; have HR282 := n3_; have HO285 := n4_; clear n0_ n1_ n2_ n3_ n4_; clear ho hb hg hat; have p286 : 0 ≤ (x9_1 : Int) := of_decide_eq_true asm; have q286 : x9_1 < (y270.length : Int) := of_decide_eq_true asm; obtain ⟨ad286, e286, hx286_0, hx286_1, hx286_2⟩ := at_T33 (Kd.R_reads' HO_6.out).2.2 x9_1 p286 q286; obtain rfl : ad274 = ad286 := (by injection e286); replace p286 := eq_true p286; replace q286 := eq_true q286) | ((with_reducible refine gate_builtin (b := .append) (xs := #[.tmp 68, .tmp 73]) rfl ?_); (try (refine gate_guard (by rfl) ?_; dsimp only)); at_builtin; refine Kd.R_append k33 (w0 := w) w.heap.size rfl (.tmp 68) (.tmp 73) 28 33 (.agg #[(.int .i64 0), (.string ⟨#[]⟩), (.string ⟨#[]⟩)]) 40 rfl Tryz.underlying28 info33 rfl (by decide) (by omega) v284 y283 (⟨(rd_T33 y270 x9_1).f0, (rd_T33 y270 x9_1).f1, (rd_T33 y270 x9_1).f2⟩ : S33) [.int .i64 ((rd_T33 y270 x9_1).f0), .string ((rd_T33 y270 x9_1).f1), .string ((rd_T33 y270 x9_1).f2)] (fun k_ => some k_ ≠ (.slice (some ad274) y270.length co8 : Value).ownBlock ∧ some k_ ≠ (.slice (some ad275) x8_1.length co13 : Value).ownBlock) (fun _ => False) rfl rfl ?aP (fun _ hk => hk.elim) ?aF ?aO ?aB ?aS ?aL ?_; (case aP => exact k33_mkM _ _ _ (⟨(rd_T33 y270 x9_1).f0, (rd_T33 y270 x9_1).f1, (rd_T33 y270 x9_1).f2⟩ : S33)); (case aB => exact bO); (case aF => exact (fun k_ hk => ⟨Kd.fresh' (Kd.R_lt (by (with_reducible repeat (first | apply Kd.R_alloc | apply Kd.R_drewN | apply Kd.R_drew)); exact HO_6.out)) k_ hk, Kd.fresh' (Kd.R_lt (by (with_reducible repeat (first | apply Kd.R_alloc | apply Kd.R_drewN | apply Kd.R_drew)); exact HO_8.out)) k_ hk⟩)); (case aO => exact (by (with_reducible repeat (first | apply Kd.R_alloc | apply Kd.R_drewN | apply Kd.R_drew)); exact HO285.out)); (case aS => exact (below_size bO)); (case aL => have := LMc31.out; omega); intro v288 w40 ho hb hg hat; rw [← Ny287.out] at ho; have n0_ := Aside0.mk (Kd.R_after (ok := (fun k_ => some k_ ≠ (.slice (some ad275) x8_1.length co13 : Value).ownBlock)) (by (with_reducible repeat (first | apply Kd.R_alloc | apply Kd.R_drewN | apply Kd.R_drew)); exact HO_6.out) hg hat); have n1_ := Aside0.mk (Kd.R_after (ok := (fun k_ => some k_ ≠ (.slice (some ad274) y270.length co8 : Value).ownBlock)) (by (with_reducible repeat (first | apply Kd.R_alloc | apply Kd.R_drewN | apply Kd.R_drew)); exact HO_8.out) hg hat); have n2_ := Aside0.mk (hb); have n3_ := Aside0.mk ((show Kd.C k33 w40 (some ad275) y279.length y279 from by rw [Ny279.out]; exact Kd.C_take (m := (x10_3 : Int).toNat) ((Kd.R_reads' (Kd.R_after (ok := (fun k_ => some k_ ≠ (.slice (some ad274) y270.length co8 : Value).ownBlock)) (by (with_reducible repeat (first | apply Kd.R_alloc | apply Kd.R_drewN | apply Kd.R_drew)); exact HO_8.out) hg hat)).2.2) KL38.out)); have n4_ := Aside0.mk (ho); clear HO_6; clear HO_8; clear HB; clear HR282; clear HO285; have HO_6 := n0_; have HO_8 := n1_; have HB := n2_; have HR282 := n3_; have HO289 := n4_; clear n0_ n1_ n2_ n3_ n4_; clear ho hb hg hat; have q41 : (x10_3 : Int) ≤ ((x8_1.length : Int) : Int) := of_decide_eq_true asm; obtain ⟨i041, hi041, _, hsz41, _⟩ := info_parts info33; have hroom41 : x8_1.length ≤ co13 := (Kd.R_reads' HO_8.out).2.1; have hC41 : Kd.C k33 _ (some ad275) x8_1.length x8_1 := (Kd.R_reads' HO_8.out).2.2; have q041 : (0 : Int) ≤ (x10_3 : Int) := of_decide_eq_true asm; have hcut41 := cut_from (P := Tryz.prog) 28 33 .i64 Tryz.underlying28 hi041 3 hsz41 (some ad275) x8_1.length co13 x10_3 q041 q41; have hr41 := Kd.C_drop (m := (x10_3 : Int).toNat) (c := co13) hC41 (by omega) hroom41; obtain ⟨A41, hA41⟩ : ∃ A1, A1 = (if co13 = (x10_3 : Int).toNat then (some ad275) else ((some ad275) : Option Addr).map (·.add ((x10_3 : Int).toNat * 3))) := ⟨_, rfl⟩; obtain ⟨c41, hc41⟩ : ∃ c1, c1 = co13 - (x10_3 : Int).toNat := ⟨_, rfl⟩; have hy41 : y290.length = x8_1.length - (x10_3 : Int).toNat := (by rw [Ny290.out, List.length_drop] <;> omega); rw [show (x8_1).drop (x10_3 : Int).toNat = y290 from Ny290.out.symm] at hr41; replace hr41 : Kd.C k33 _ A41 y290.length y290 := (by rw [hA41]; exact hr41); rw [← hy41, ← hA41, ← hc41] at hcut41; have HR293 := Aside0.mk hr41; have HC293 := Aside0.mk (show y290.length ≤ c41 from by rw [hy41, hc41]; exact Nat.sub_le_sub_right hroom41 _); clear hr41 hC41 hroom41 hi041 hsz41 hc41; have KY41 := Aside0.mk hy41; have KA41 := Aside0.mk hA41; clear hy41 hA41; have KL41 := Aside0.mk (show (x10_3 : Int).toNat ≤ x8_1.length from by omega); replace q41 := eq_true q41) | ((with_reducible refine gate_builtin (b := .append) (xs := #[.tmp 75, .tmp 78]) rfl ?_); (try (refine gate_guard (by rfl) ?_; dsimp only)); at_builtin; refine Kd.R_append_rows k33 (w0 := w) w.heap.size rfl (.tmp 75) (.tmp 78) 28 33 (.agg #[(.int .i64 0), (.string ⟨#[]⟩), (.string ⟨#[]⟩)]) 40 rfl Tryz.underlying28 info33 rfl (by decide) (by omega) v288 y287 y290 _ _ _ (fun k_ => some k_ ≠ (.slice (some ad274) y270.length co8 : Value).ownBlock ∧ some k_ ≠ (.slice (some ad275) x8_1.length co13 : Value).ownBlock) (fun _ => False) rfl rfl ?aO ?aR (fun _ _ h => h) (fun _ h => h.elim) ?aF ?aB ?aS ?aL ?_; (case aR => repeat (first | exact (by repeat (first | (with_reducible exact HR293.out) | (with_reducible refine Kd.C_alloc ?_ _) | (with_reducible refine Kd.C_drewN ?_ _) | (with_reducible refine Kd.C_drew ?_) | exact HR293.out)) | (with_reducible refine Kd.C_alloc ?_ _) | (with_reducible refine Kd.C_drewN ?_ _) | (with_reducible refine Kd.C_drew ?_))); (case aB => exact bO); (case aF => exact (fun k_ hk => ⟨Kd.fresh' (Kd.R_lt (by (with_reducible repeat (first | apply Kd.R_alloc | apply Kd.R_drewN | apply Kd.R_drew)); exact HO_6.out)) k_ hk, Kd.fresh' (Kd.R_lt (by (with_reducible repeat (first | apply Kd.R_alloc | apply Kd.R_drewN | apply Kd.R_drew)); exact HO_8.out)) k_ hk⟩)); (case aO => exact (by (with_reducible repeat (first | apply Kd.R_alloc | apply Kd.R_drewN | apply Kd.R_drew)); exact HO289.out)); (case aS => exact (below_size bO)); (case aL => have := LMc34.out; omega); intro v295 w42 ho hb hg hat; rw [← Ny294.out] at ho; have n0_ := Aside0.mk (Kd.R_after (ok := (fun k_ => some k_ ≠ (.slice (some ad275) x8_1.length co13 : Value).ownBlock)) (by (with_reducible repeat (first | apply Kd.R_alloc | apply Kd.R_drewN | apply Kd.R_drew)); exact HO_6.out) hg hat); have n1_ := Aside0.mk (Kd.R_after (ok := (fun k_ => some k_ ≠ (.slice (some ad274) y270.length co8 : Value).ownBlock)) (by (with_reducible repeat (first | apply Kd.R_alloc | apply Kd.R_drewN | apply Kd.R_drew)); exact HO_8.out) hg hat); have n2_ := Aside0.mk (hb); have n3_ := Aside0.mk ((show Kd.C k33 w42 (some ad275) y279.length y279 from by rw [Ny279.out]; exact Kd.C_take (m := (x10_3 : Int).toNat) ((Kd.R_reads' (Kd.R_after (ok := (fun k_ => some k_ ≠ (.slice (some ad274) y270.length co8 : Value).ownBlock)) (by (with_reducible repeat (first | apply Kd.R_alloc | apply Kd.R_drewN | apply Kd.R_drew)); exact HO_8.out) hg hat)).2.2) KL38.out)); have n4_ := Aside0.mk ((show Kd.C k33 w42 A41 y290.length y290 from by rw [Ny290.out, KA41.out]; exact Kd.C_drop (m := (x10_3 : Int).toNat) (c := co13) ((Kd.R_reads' (Kd.R_after (ok := (fun k_ => some k_ ≠ (.slice (some ad274) y270.length co8 : Value).ownBlock)) (by (with_reducible repeat (first | apply Kd.R_alloc | apply Kd.R_drewN | apply Kd.R_drew)); exact HO_8.out) hg hat)).2.2) KL41.out ((Kd.R_reads' (Kd.R_after (ok := (fun k_ => some k_ ≠ (.slice (some ad274) y270.length co8 : Value).ownBlock)) (by (with_reducible repeat (first | apply Kd.R_alloc | apply Kd.R_drewN | apply Kd.R_drew)); exact HO_8.out) hg hat)).2.1))); have n5_ := Aside0.mk (ho); clear HO_6; clear HO_8; clear HB; clear HR282; clear HR293; clear HO289; have HO_6 := n0_; have HO_8 := n1_; have HB := n2_; have HR282 := n3_; have HR293 := n4_; have HO296 := n5_; clear n0_ n1_ n2_ n3_ n4_ n5_; clear ho hb hg hat))
       go_roundg k3
       case measure => have := HK1.out; have := HJ8.out; have := HK3.out; omega
       case rel => exact ⟨(y294), (wrap64 (x9_1 + 1)), sR, H', ⟨by have := HK1.out; have := HJ8.out; have := HK3.out; omega⟩, ⟨by (with_reducible repeat (first | apply Kd.R_alloc | apply Kd.R_drewN | apply Kd.R_drew)); exact Kd.R_mono HO_6.out (fun _ hk => hk.2)⟩, ⟨by (with_reducible repeat (first | apply Kd.R_alloc | apply Kd.R_drewN | apply Kd.R_drew)); exact Kd.R_mono HO296.out (fun _ hk => hk.1)⟩, ⟨bO⟩⟩
end Go.Proofs.YtkedidjjhhjdbaaGreatDoor.Pr
