import Derived.Test.YtnfanpjfhdlddaaGreatDoorQFits5
import Derived.Test.YtnfanpjfhdlddaaGreatDoorQFits12
import Derived.Test.YtnfanpjfhdlddaaGreatDoorQFits14
import Derived.Test.YtnfanpjfhdlddaaGreatDoorQFits3
import Derived.Test.YtnfanpjfhdlddaaGreatDoorQFits15
namespace Go.Proofs.YtnfanpjfhdlddaaGreatDoor.Pr
open Go.RowKit Go.Proofs.YtnfanpjfhdlddaaGreatDoorW.PrintWords Go.Proofs.YtnfanpjfhdlddaaGreatDoorW.PrintLast Go.Proofs.YtnfanpjfhdlddaaGreatDoorW.PrintMore
attribute [local go_sem] max2_int min2_int max_two min_two max_three min_three max_four min_four strGtr strLeq strGeq
set_option linter.unusedVariables false
set_option linter.unusedSimpArgs false
mutual
def belfrylaw04_AttrFits.j0 : Nat → List (S45) → List (S54) → List (S54) → Bool → Bool → Bool → Option (Bool)
  | 0, _, _, _, _, _, _ => none
  | k + 1, x0, x1, x2, x7, x8, x31 => if x31 = true then (some false) else ((attr_Both.f k x1 x2).bind fun bt454 => (if bt454.2 = 0 then ((attr_Fits.f k x0 bt454.1).bind fun t458 => (if x7 = true then (belfrylaw04_AttrFits.j1 k x0 x1 (t458 != x8)) else (belfrylaw04_AttrFits.j1 k x0 x1 (t458 != false)))) else (belfrylaw04_AttrFits.j1 k x0 x1 false)))
def belfrylaw04_AttrFits.j1 : Nat → List (S45) → List (S54) → Bool → Option (Bool)
  | 0, _, _, _ => none
  | k + 1, x0, x1, x49 => if x49 = true then (some false) else (belfrylaw04_AttrFits.l0 k x0 x1 (([0, 2, 1, 4, 3] : List Int)) 0)
def belfrylaw04_AttrFits.l0 : Nat → List (S45) → List (S54) → List Int → Int → Option (Bool)
  | 0, _, _, _, _ => none
  | k + 1, x0, x1, x11, x12 => if x12 < (x1.length : Int) then (belfrylaw04_AttrFits.j3 k x0 x1 x11 x12 (decide (x12 < 20))) else (belfrylaw04_AttrFits.j3 k x0 x1 x11 x12 false)
def belfrylaw04_AttrFits.j3 : Nat → List (S45) → List (S54) → List Int → Int → Bool → Option (Bool)
  | 0, _, _, _, _, _ => none
  | k + 1, x0, x1, x11, x12, x58 => if x58 = true then (if 0 ≤ x12 then (if x12 < (x1.length : Int) then (if ((rd_T54 x1 x12).f0) < 1 then (belfrylaw04_AttrFits.j4 k x0 x1 x11 x12 true) else (belfrylaw04_AttrFits.j4 k x0 x1 x11 x12 (decide (((rd_T54 x1 x12).f0) > 4)))) else (none)) else (none)) else ((belfrylaw04_known.f k).bind fun t462 => (some t462))
def belfrylaw04_AttrFits.j4 : Nat → List (S45) → List (S54) → List Int → Int → Bool → Option (Bool)
  | 0, _, _, _, _, _ => none
  | k + 1, x0, x1, x11, x12, x74 => if x74 = true then (belfrylaw04_AttrFits.l0 k x0 x1 x11 (wrap64 (x12 + 1))) else (if 0 ≤ x12 then (if x12 < (x1.length : Int) then (if 0 ≤ ((rd_T54 x1 x12).f0) then (if ((rd_T54 x1 x12).f0) < (x11.length : Int) then (if x12 ≤ (wrap64 (x12 + 1)) then (if (wrap64 (x12 + 1)) ≤ (x1.length : Int) then ((attr_Fits.f k x0 ((x1.take ((wrap64 (x12 + 1)) : Int).toNat).drop (x12 : Int).toNat)).bind fun t472 => ((attr_Fits.f k x0 (([(⟨rd x11 ((rd_T54 x1 x12).f0), (rd_T54 x1 x12).f1, (rd_T54 x1 x12).f2⟩ : S54)] : List (S54)))).bind fun t476 => (if (t472 == t476) = true then (some false) else (belfrylaw04_AttrFits.l0 k x0 x1 x11 (wrap64 (x12 + 1)))))) else (none)) else (none)) else (none)) else (none)) else (none)) else (none))
end
def belfrylaw04_AttrFits.f (k : Nat) (l0 : List (S45)) (l1 : List (S54)) (l2 : List (S54)) : Option (Bool) := (attr_Fits.f k l0 l1).bind fun t450 => ((attr_Fits.f k l0 l2).bind fun t451 => ((belfryref04_Fits.f k l0 l1).bind fun t452 => (if (t450 != t452) = true then (belfrylaw04_AttrFits.j0 k l0 l1 l2 t450 t451 true) else ((belfryref04_Fits.f k l0 l2).bind fun t453 => (belfrylaw04_AttrFits.j0 k l0 l1 l2 t450 t451 (t451 != t453))))))
def belfrylaw04_AttrFits.T15 : Bool × List (List Nat × List Nat) := (true, [([], []), ([], []), ([], []), ([], []), ([3], [3]), ([1, 2, 4], [1, 2, 4]), ([0, 5], [0, 5]), ([], []), ([], []), ([8], [8]), ([7, 9, 6], [7, 9]), ([6, 10], [6, 10])])
def belfrylaw04_AttrFits.B15 : List Nat := [0, 0, 0, 0, 8, 30, 63, 0, 0, 256, 1023, 2047]
theorem belfrylaw04_AttrFits.tab15 : rtab .any (opsOf Tryz.f6 15) = belfrylaw04_AttrFits.T15 := by kernel_rfl
theorem belfrylaw04_AttrFits.bits15 : waitsOk belfrylaw04_AttrFits.T15.2 belfrylaw04_AttrFits.B15 = true := by kernel_rfl
set_option maxHeartbeats 8000000 in
set_option maxRecDepth 100000 in
theorem belfrylaw04_AttrFits.calls (k : Nat) (A0 : Option Addr) (c0 : Nat) (l0 : List (S45)) (A1 : Option Addr) (c1 : Nat) (l1 : List (S54)) (A2 : Option Addr) (c2 : Nat) (l2 : List (S54)) (r : Bool) (w : World) (hr0 : Kd.C k45 w A0 l0.length l0) (hc0 : l0.length ≤ c0) (hr1 : Kd.C k54 w A1 l1.length l1) (hc1 : l1.length ≤ c1) (hr2 : Kd.C k54 w A2 l2.length l2) (hc2 : l2.length ≤ c2) (h : belfrylaw04_AttrFits.f k l0 l1 l2 = some r) (he_ : EnvW w := by repeat (first | with_reducible assumption | with_reducible exact env_of (by with_reducible assumption) (by with_reducible assumption) | with_reducible exact env_out (by with_reducible assumption) | with_reducible apply env_alloc | with_reducible apply env_drewN | with_reducible apply env_drew | with_reducible refine env_set ?_ (by with_reducible assumption) (by with_reducible assumption))) :
  Calls Tryz.prog 6 #[.slice A0 l0.length c0, .slice A1 l1.length c1, .slice A2 l2.length c2] w fun e w' => e = .returned (.bool r) ∧ Below w.heap.size w w' := by
 have HE_ := Aside0.mk he_
 clear he_
 have hu54 := Tryz.underlying54
 have HR0 := Aside0.mk hr0
 have HC0 := Aside0.mk hc0
 clear hr0 hc0
 have HR1 := Aside0.mk hr1
 have HC1 := Aside0.mk hc1
 clear hr1 hc1
 have HR2 := Aside0.mk hr2
 have HC2 := Aside0.mk hc2
 clear hr2 hc2
 have HB := Aside0.mk (Below.refl w.heap.size w)
 have H : ((attr_Fits.f k l0 l1).bind fun t450 => ((attr_Fits.f k l0 l2).bind fun t451 => ((belfryref04_Fits.f k l0 l1).bind fun t452 => (if (t450 != t452) = true then (belfrylaw04_AttrFits.j0 k l0 l1 l2 t450 t451 true) else ((belfryref04_Fits.f k l0 l2).bind fun t453 => (belfrylaw04_AttrFits.j0 k l0 l1 l2 t450 t451 (t451 != t453))))))) = some r := h
 clear h
 replace H := Option.bind_eq_some_iff.mp H
 obtain ⟨t450, A40, H⟩ := H
 replace H : ((attr_Fits.f k l0 l2).bind fun t451 => ((belfryref04_Fits.f k l0 l1).bind fun t452 => (if (t450 != t452) = true then (belfrylaw04_AttrFits.j0 k l0 l1 l2 t450 t451 true) else ((belfryref04_Fits.f k l0 l2).bind fun t453 => (belfrylaw04_AttrFits.j0 k l0 l1 l2 t450 t451 (t451 != t453)))))) = some r := H
 have A4 := Aside0.mk A40
 clear A40
 replace H := Option.bind_eq_some_iff.mp H
 obtain ⟨t451, A50, H⟩ := H
 replace H : ((belfryref04_Fits.f k l0 l1).bind fun t452 => (if (t450 != t452) = true then (belfrylaw04_AttrFits.j0 k l0 l1 l2 t450 t451 true) else ((belfryref04_Fits.f k l0 l2).bind fun t453 => (belfrylaw04_AttrFits.j0 k l0 l1 l2 t450 t451 (t451 != t453))))) = some r := H
 have A5 := Aside0.mk A50
 clear A50
 have HC6 := Aside0.mk H
 clear H
 go_enter Tryz.func6, Tryz.ntmps6
 go_upto_region 3 with (first | ((with_reducible refine gate_callee (f := 28) rfl ?_); refine goesL_ (some 16) rfl rfl Tryz.func28 (by kernel_rfl) rfl #[.slice A0 l0.length c0, .slice A1 l1.length c1] rfl (by (try simp only [List.map_toArray, List.map_cons, List.map_nil]); first | done | rfl | (simp only [List.length_drop, List.length_take]; rfl)) ?_; (with_reducible refine (attr_Fits.calls k _ _ l0 _ _ l1 t450 _ ?side1 ?side2 ?side3 ?side4 A4.out).mono ?_); (case side1 => repeat (first | exact HR0.out | (with_reducible refine Kd.C_alloc ?_ _) | (with_reducible refine Kd.C_drewN ?_ _) | (with_reducible refine Kd.C_drew ?_))); (case side2 => exact HC0.out); (case side3 => repeat (first | exact HR1.out | (with_reducible refine Kd.C_alloc ?_ _) | (with_reducible refine Kd.C_drewN ?_ _) | (with_reducible refine Kd.C_drew ?_))); (case side4 => exact HC1.out); rintro e w7 ⟨rfl, hb⟩; refine ⟨_, rfl, ?_⟩; have n0_ := Aside0.mk (below_step (by repeat (first | (with_reducible first | exact HB.out | apply below_alloc | apply pw_below_drewN | apply below_drew1) | exact HB.out)) hb); clear HB; have HB := n0_; clear n0_; (try clear hb); (try clear hb2); (try clear hk); (try clear hi)) | ((with_reducible refine gate_callee (f := 28) rfl ?_); refine goesL_ (some 19) rfl rfl Tryz.func28 (by kernel_rfl) rfl #[.slice A0 l0.length c0, .slice A2 l2.length c2] rfl (by (try simp only [List.map_toArray, List.map_cons, List.map_nil]); first | done | rfl | (simp only [List.length_drop, List.length_take]; rfl)) ?_; (with_reducible refine (attr_Fits.calls k _ _ l0 _ _ l2 t451 _ ?side1 ?side2 ?side3 ?side4 A5.out).mono ?_); (case side1 => repeat (first | exact (Kd.C_below HR0.out HB.out) | (with_reducible refine Kd.C_alloc ?_ _) | (with_reducible refine Kd.C_drewN ?_ _) | (with_reducible refine Kd.C_drew ?_))); (case side2 => exact HC0.out); (case side3 => repeat (first | exact (Kd.C_below HR2.out HB.out) | (with_reducible refine Kd.C_alloc ?_ _) | (with_reducible refine Kd.C_drewN ?_ _) | (with_reducible refine Kd.C_drew ?_))); (case side4 => exact HC2.out); rintro e w8 ⟨rfl, hb⟩; refine ⟨_, rfl, ?_⟩; have n0_ := Aside0.mk (below_step (by repeat (first | (with_reducible first | exact HB.out | apply below_alloc | apply pw_below_drewN | apply below_drew1) | exact HB.out)) hb); clear HB; have HB := n0_; clear n0_; (try clear hb); (try clear hb2); (try clear hk); (try clear hi)))
 (try simp only [Act.put, List.setIfInBounds_toArray, List.set_cons_zero, List.set_cons_succ])
 go_cut [31] (fun v31 wc => ∃ (kq : Nat) (x31_5 : Bool), v31 = .bool x31_5 ∧ Aside0 (belfrylaw04_AttrFits.j0 kq l0 l1 l2 t450 t451 x31_5 = some r) ∧ Aside0 (kq ≤ k) ∧ Aside0 (Below w.heap.size w wc))
 case first =>
  have H := HC6.out
  clear HC6
  replace H := Option.bind_eq_some_iff.mp H
  obtain ⟨t452, A90, H⟩ := H
  replace H : (if (t450 != t452) = true then (belfrylaw04_AttrFits.j0 k l0 l1 l2 t450 t451 true) else ((belfryref04_Fits.f k l0 l2).bind fun t453 => (belfrylaw04_AttrFits.j0 k l0 l1 l2 t450 t451 (t451 != t453)))) = some r := H
  have A9 := Aside0.mk A90
  clear A90
  by_cases c10 : (t450 != t452) = true
  ·
   rw [if_pos c10] at H
   have c10b0 : (t450 != t452) = true := c10
   (try (have c10b1 : decide (t450 = t452) = false := by simpa using c10))
   (try (have c10b2 : (t450 == t452) = false := by simpa using c10))
   (try (have c10b3 : ¬ (t450 = t452) := by simpa using c10))
   clear c10
   (first | rw [c10b0] | (simp only [i64_w, i32_w]; rw [c10b0]) | skip)
   have H' := Aside0.mk H
   clear H
   go_wp2_with (first | ((with_reducible refine gate_callee (f := 29) rfl ?_); refine goesL_ (some 23) rfl rfl Tryz.func29 (by kernel_rfl) rfl #[.slice A0 l0.length c0, .slice A1 l1.length c1] rfl (by (try simp only [List.map_toArray, List.map_cons, List.map_nil]); first | done | rfl | (simp only [List.length_drop, List.length_take]; rfl)) ?_; (with_reducible refine (belfryref04_Fits.calls k _ _ l0 _ _ l1 t452 _ ?side1 ?side2 ?side3 ?side4 A9.out).mono ?_); (case side1 => repeat (first | exact (Kd.C_below HR0.out HB.out) | (with_reducible refine Kd.C_alloc ?_ _) | (with_reducible refine Kd.C_drewN ?_ _) | (with_reducible refine Kd.C_drew ?_))); (case side2 => exact HC0.out); (case side3 => repeat (first | exact (Kd.C_below HR1.out HB.out) | (with_reducible refine Kd.C_alloc ?_ _) | (with_reducible refine Kd.C_drewN ?_ _) | (with_reducible refine Kd.C_drew ?_))); (case side4 => exact HC1.out); rintro e w11 ⟨rfl, hb⟩; refine ⟨_, rfl, ?_⟩; have n0_ := Aside0.mk (below_step (by repeat (first | (with_reducible first | exact HB.out | apply below_alloc | apply pw_below_drewN | apply below_drew1) | exact HB.out)) hb); clear HB; have HB := n0_; clear n0_; (try clear hb); (try clear hb2); (try clear hk); (try clear hi)))
   go_meet
   case rel => exact ⟨_, (true), (by first | rfl | (simp; done) | (simp [*]; done)), H', ⟨by first | omega | exact Nat.le_refl _⟩, ⟨by repeat (first | (with_reducible first | exact HB.out | apply below_alloc | apply pw_below_drewN | apply below_drew1) | exact HB.out)⟩⟩
  ·
   rw [if_neg c10] at H
   have c10b0 : (t450 != t452) = false := by simpa using c10
   (try (have c10b1 : decide (t450 = t452) = true := by simpa using c10))
   (try (have c10b2 : (t450 == t452) = true := by simpa using c10))
   clear c10
   (first | rw [c10b0] | (simp only [i64_w, i32_w]; rw [c10b0]) | skip)
   replace H := Option.bind_eq_some_iff.mp H
   obtain ⟨t453, A120, H⟩ := H
   replace H : (belfrylaw04_AttrFits.j0 k l0 l1 l2 t450 t451 (t451 != t453)) = some r := H
   have A12 := Aside0.mk A120
   clear A120
   have H' := Aside0.mk H
   clear H
   go_wp2_with (first | ((with_reducible refine gate_callee (f := 29) rfl ?_); refine goesL_ (some 23) rfl rfl Tryz.func29 (by kernel_rfl) rfl #[.slice A0 l0.length c0, .slice A1 l1.length c1] rfl (by (try simp only [List.map_toArray, List.map_cons, List.map_nil]); first | done | rfl | (simp only [List.length_drop, List.length_take]; rfl)) ?_; (with_reducible refine (belfryref04_Fits.calls k _ _ l0 _ _ l1 t452 _ ?side1 ?side2 ?side3 ?side4 A9.out).mono ?_); (case side1 => repeat (first | exact (Kd.C_below HR0.out HB.out) | (with_reducible refine Kd.C_alloc ?_ _) | (with_reducible refine Kd.C_drewN ?_ _) | (with_reducible refine Kd.C_drew ?_))); (case side2 => exact HC0.out); (case side3 => repeat (first | exact (Kd.C_below HR1.out HB.out) | (with_reducible refine Kd.C_alloc ?_ _) | (with_reducible refine Kd.C_drewN ?_ _) | (with_reducible refine Kd.C_drew ?_))); (case side4 => exact HC1.out); rintro e w13 ⟨rfl, hb⟩; refine ⟨_, rfl, ?_⟩; have n0_ := Aside0.mk (below_step (by repeat (first | (with_reducible first | exact HB.out | apply below_alloc | apply pw_below_drewN | apply below_drew1) | exact HB.out)) hb); clear HB; have HB := n0_; clear n0_; (try clear hb); (try clear hb2); (try clear hk); (try clear hi)) | (go_at_call 29; (with_reducible refine (belfryref04_Fits.calls k _ _ l0 _ _ l2 t453 _ ?side1 ?side2 ?side3 ?side4 A12.out).mono ?_); (case side1 => repeat (first | exact (Kd.C_below HR0.out HB.out) | (with_reducible refine Kd.C_alloc ?_ _) | (with_reducible refine Kd.C_drewN ?_ _) | (with_reducible refine Kd.C_drew ?_))); (case side2 => exact HC0.out); (case side3 => repeat (first | exact (Kd.C_below HR2.out HB.out) | (with_reducible refine Kd.C_alloc ?_ _) | (with_reducible refine Kd.C_drewN ?_ _) | (with_reducible refine Kd.C_drew ?_))); (case side4 => exact HC2.out); rintro e w14 ⟨rfl, hb⟩; have n0_ := Aside0.mk (below_step (by repeat (first | (with_reducible first | exact HB.out | apply below_alloc | apply pw_below_drewN | apply below_drew1) | exact HB.out)) hb); clear HB; have HB := n0_; clear n0_; (try clear hb); (try clear hb2); (try clear hk); (try clear hi)))
   go_meet
   case rel => exact ⟨_, ((t451 != t453)), (by first | rfl | (simp; done) | (simp [*]; done)), H', ⟨by first | omega | exact Nat.le_refl _⟩, ⟨by repeat (first | (with_reducible first | exact HB.out | apply below_alloc | apply pw_below_drewN | apply below_drew1) | exact HB.out)⟩⟩
 case rest =>
  clear HC6
  try clear c1
  try clear c2
  try clear p2
  try clear c6
  try clear c10
  try clear c10b0
  try clear c10b1
  try clear c10b2
  obtain ⟨kq, x31_5, rfl, HA, HJ5, HB⟩ := hcut
  cases kq with
  | zero => exact absurd HA.out (by simp [belfrylaw04_AttrFits.j0])
  | succ kj5 =>
   have H := HA.out
   clear HA
   simp only [belfrylaw04_AttrFits.j0] at H
   by_cases c15 : x31_5 = true
   ·
    subst c15
    have H1 : (some false) = some r := by rw [if_pos rfl] at H; exact H
    clear H
    have H := H1
    clear H1
    obtain rfl := Option.some.inj H
    go_wp2
    go_ret
    exact ⟨by first | rfl | (simp [errW_none, errW_some] <;> rfl) | (simp [*, errW_none, errW_some] <;> rfl), by repeat (first | (with_reducible first | exact HB.out | apply below_alloc | apply pw_below_drewN | apply below_drew1) | exact HB.out)⟩
   ·
    replace c15 := Bool.eq_false_iff.mpr c15
    subst c15
    have H1 : ((attr_Both.f kj5 l1 l2).bind fun bt454 => (if bt454.2 = 0 then ((attr_Fits.f kj5 l0 bt454.1).bind fun t458 => (if t450 = true then (belfrylaw04_AttrFits.j1 kj5 l0 l1 (t458 != t451)) else (belfrylaw04_AttrFits.j1 kj5 l0 l1 (t458 != false)))) else (belfrylaw04_AttrFits.j1 kj5 l0 l1 false))) = some r := by rw [if_neg (show ¬ (false = true) by decide)] at H; exact H
    clear H
    have H := H1
    clear H1
    replace H := Option.bind_eq_some_iff.mp H
    obtain ⟨⟨t454, t455⟩, A160, H⟩ := H
    replace H : (if t455 = 0 then ((attr_Fits.f kj5 l0 t454).bind fun t458 => (if t450 = true then (belfrylaw04_AttrFits.j1 kj5 l0 l1 (t458 != t451)) else (belfrylaw04_AttrFits.j1 kj5 l0 l1 (t458 != false)))) else (belfrylaw04_AttrFits.j1 kj5 l0 l1 false)) = some r := H
    have A16 := Aside0.mk A160
    clear A160
    have HC17 := Aside0.mk H
    clear H
    go_upto_region 6 with (first | ((with_reducible refine gate_callee (f := 30) rfl ?_); refine goesL_ (some 35) rfl rfl Tryz.func30 (by kernel_rfl) rfl #[.slice A1 l1.length c1, .slice A2 l2.length c2] rfl (by (try simp only [List.map_toArray, List.map_cons, List.map_nil]); first | done | rfl | (simp only [List.length_drop, List.length_take]; rfl)) ?_; (with_reducible refine (attr_Both.calls kj5 _ _ l1 _ _ l2 t454 t455 _ ?side1 ?side2 ?side3 ?side4 A16.out).mono ?_); (case side1 => repeat (first | exact (Kd.C_below HR1.out HB.out) | (with_reducible refine Kd.C_alloc ?_ _) | (with_reducible refine Kd.C_drewN ?_ _) | (with_reducible refine Kd.C_drew ?_))); (case side2 => exact HC1.out); (case side3 => repeat (first | exact (Kd.C_below HR2.out HB.out) | (with_reducible refine Kd.C_alloc ?_ _) | (with_reducible refine Kd.C_drewN ?_ _) | (with_reducible refine Kd.C_drew ?_))); (case side4 => exact HC2.out); rintro e w18 ⟨v456, rfl, ho0, hb⟩; refine ⟨_, rfl, ?_⟩; have n0_ := Aside0.mk ho0; have n1_ := Aside0.mk (below_step (by repeat (first | (with_reducible first | exact HB.out | apply below_alloc | apply pw_below_drewN | apply below_drew1) | exact HB.out)) hb); clear HB; have HO457 := n0_; have HB := n1_; clear n0_ n1_; (try clear hb); (try clear hb2); (try clear hk); (try clear hi); (try clear ho0)))
    (try simp only [Act.put, List.setIfInBounds_toArray, List.set_cons_zero, List.set_cons_succ])
    go_cut [49] (fun v49 wc => ∃ (kq : Nat) (x49_16 : Bool), v49 = .bool x49_16 ∧ Aside0 (belfrylaw04_AttrFits.j1 kq l0 l1 x49_16 = some r) ∧ Aside0 (kq ≤ kj5) ∧ Aside0 (Below w.heap.size w wc))
    case first =>
     have H := HC17.out
     clear HC17
     by_cases c19 : t455 = 0
     ·
      rw [if_pos c19] at H
      have c19b0 : (t455 == 0) = true := beq_iff_eq.mpr c19
      have c19b1 : (t455 != 0) = false := bne_eq_false_iff_eq.mpr c19
      clear c19
      (first | rw [c19b0] | (simp only [i64_w, i32_w]; rw [c19b0]) | skip)
      replace H := Option.bind_eq_some_iff.mp H
      obtain ⟨t458, A200, H⟩ := H
      replace H : (if t450 = true then (belfrylaw04_AttrFits.j1 kj5 l0 l1 (t458 != t451)) else (belfrylaw04_AttrFits.j1 kj5 l0 l1 (t458 != false))) = some r := H
      have A20 := Aside0.mk A200
      clear A200
      by_cases c21 : t450 = true
      ·
       subst c21
       have H1 : (belfrylaw04_AttrFits.j1 kj5 l0 l1 (t458 != t451)) = some r := by rw [if_pos rfl] at H; exact H
       clear H
       have H := H1
       clear H1
       have H' := Aside0.mk H
       clear H
       obtain ⟨Ao22, co22, eo22⟩ := Seen54.slice HO457.out
       subst eo22
       go_wp2_with (first | (go_at_call 28; (with_reducible refine (attr_Fits.calls kj5 _ _ l0 _ _ t454 t458 _ ?side1 ?side2 ?side3 ?side4 A20.out).mono ?_); (case side1 => repeat (first | exact (Kd.C_below HR0.out HB.out) | (with_reducible refine Kd.C_alloc ?_ _) | (with_reducible refine Kd.C_drewN ?_ _) | (with_reducible refine Kd.C_drew ?_))); (case side2 => exact HC0.out); (case side3 => repeat (first | exact (Seen54.reads HO457.out).2.2 | (with_reducible refine Kd.C_alloc ?_ _) | (with_reducible refine Kd.C_drewN ?_ _) | (with_reducible refine Kd.C_drew ?_))); (case side4 => exact (Seen54.reads HO457.out).2.1); rintro e w23 ⟨rfl, hb⟩; have n0_ := Aside0.mk (Seen54.below (by (with_reducible repeat (first | apply Seen54.alloc | apply Seen54.drewN | apply Seen54.drew)); exact HO457.out) hb); have n1_ := Aside0.mk (below_step (by repeat (first | (with_reducible first | exact HB.out | apply below_alloc | apply pw_below_drewN | apply below_drew1) | exact HB.out)) hb); clear HO457; clear HB; have HO457 := n0_; have HB := n1_; clear n0_ n1_; (try clear hb); (try clear hb2); (try clear hk); (try clear hi)))
       go_meet
       case rel => exact ⟨_, ((t458 != t451)), (by first | rfl | (simp; done) | (simp [*]; done)), H', ⟨by have := HJ5.out; first | omega | exact Nat.le_refl _⟩, ⟨by repeat (first | (with_reducible first | exact HB.out | apply below_alloc | apply pw_below_drewN | apply below_drew1) | exact HB.out)⟩⟩
      ·
       replace c21 := Bool.eq_false_iff.mpr c21
       subst c21
       have H1 : (belfrylaw04_AttrFits.j1 kj5 l0 l1 (t458 != false)) = some r := by rw [if_neg (show ¬ (false = true) by decide)] at H; exact H
       clear H
       have H := H1
       clear H1
       have H' := Aside0.mk H
       clear H
       obtain ⟨Ao24, co24, eo24⟩ := Seen54.slice HO457.out
       subst eo24
       go_wp2_with (first | (go_at_call 28; (with_reducible refine (attr_Fits.calls kj5 _ _ l0 _ _ t454 t458 _ ?side1 ?side2 ?side3 ?side4 A20.out).mono ?_); (case side1 => repeat (first | exact (Kd.C_below HR0.out HB.out) | (with_reducible refine Kd.C_alloc ?_ _) | (with_reducible refine Kd.C_drewN ?_ _) | (with_reducible refine Kd.C_drew ?_))); (case side2 => exact HC0.out); (case side3 => repeat (first | exact (Seen54.reads HO457.out).2.2 | (with_reducible refine Kd.C_alloc ?_ _) | (with_reducible refine Kd.C_drewN ?_ _) | (with_reducible refine Kd.C_drew ?_))); (case side4 => exact (Seen54.reads HO457.out).2.1); rintro e w25 ⟨rfl, hb⟩; have n0_ := Aside0.mk (Seen54.below (by (with_reducible repeat (first | apply Seen54.alloc | apply Seen54.drewN | apply Seen54.drew)); exact HO457.out) hb); have n1_ := Aside0.mk (below_step (by repeat (first | (with_reducible first | exact HB.out | apply below_alloc | apply pw_below_drewN | apply below_drew1) | exact HB.out)) hb); clear HO457; clear HB; have HO457 := n0_; have HB := n1_; clear n0_ n1_; (try clear hb); (try clear hb2); (try clear hk); (try clear hi)))
       go_meet
       case rel => exact ⟨_, ((t458 != false)), (by first | rfl | (simp; done) | (simp [*]; done)), H', ⟨by have := HJ5.out; first | omega | exact Nat.le_refl _⟩, ⟨by repeat (first | (with_reducible first | exact HB.out | apply below_alloc | apply pw_below_drewN | apply below_drew1) | exact HB.out)⟩⟩
     ·
      rw [if_neg c19] at H
      have c19b0 : (t455 == 0) = false := beq_eq_false_iff_ne.mpr c19
      have c19b1 : (t455 != 0) = true := bne_iff_ne.mpr c19
      (first | rw [c19b0] | (simp only [i64_w, i32_w]; rw [c19b0]) | skip)
      have H' := Aside0.mk H
      clear H
      go_wp2
      go_meet
      case rel => exact ⟨_, (false), (by first | rfl | (simp; done) | (simp [*]; done)), H', ⟨by have := HJ5.out; first | omega | exact Nat.le_refl _⟩, ⟨by repeat (first | (with_reducible first | exact HB.out | apply below_alloc | apply pw_below_drewN | apply below_drew1) | exact HB.out)⟩⟩
    case rest =>
     clear HC17
     try clear c1
     try clear c2
     try clear p2
     try clear c3
     try clear c6
     try clear c10
     try clear c10b0
     try clear c10b1
     try clear c10b2
     try clear c15
     try clear c19
     try clear c19b0
     try clear c19b1
     try clear c21
     try clear p2
     obtain ⟨kq, x49_16, rfl, HA, HJ16, HB⟩ := hcut
     cases kq with
     | zero => exact absurd HA.out (by simp [belfrylaw04_AttrFits.j1])
     | succ kj16 =>
      have H := HA.out
      clear HA
      simp only [belfrylaw04_AttrFits.j1] at H
      by_cases c26 : x49_16 = true
      ·
       subst c26
       have H1 : (some false) = some r := by rw [if_pos rfl] at H; exact H
       clear H
       have H := H1
       clear H1
       obtain rfl := Option.some.inj H
       go_wp2
       go_ret
       exact ⟨by first | rfl | (simp [errW_none, errW_some] <;> rfl) | (simp [*, errW_none, errW_some] <;> rfl), by repeat (first | (with_reducible first | exact HB.out | apply below_alloc | apply pw_below_drewN | apply below_drew1) | exact HB.out)⟩
      ·
       replace c26 := Bool.eq_false_iff.mpr c26
       subst c26
       have H1 : (belfrylaw04_AttrFits.l0 kj16 l0 l1 (([0, 2, 1, 4, 3] : List Int)) 0) = some r := by rw [if_neg (show ¬ (false = true) by decide)] at H; exact H
       clear H
       have H := H1
       clear H1
       obtain ⟨y459, hy459⟩ : ∃ y_ : List Int, y_ = (([0, 2, 1, 4, 3] : List Int)) := ⟨_, rfl⟩
       replace H : (belfrylaw04_AttrFits.l0 kj16 l0 l1 y459 0) = some r := by first | (rw [hy459]; with_reducible exact H) | (have H2_ := (Option.bind_some _ _).symm.trans H; rw [hy459]; with_reducible exact H2_) | (have H2_ := (Option.bind_some _ _).symm.trans H; with_reducible exact H2_) | with_reducible exact H | (rw [hy459]; exact H) | exact H
       have Ny459 := Aside0.mk hy459
       clear hy459
       have H' := Aside0.mk H
       clear H
       go_wp2_with (first | ((with_reducible refine gate_dst (N := 50) rfl ?_); refine Kd.R_lit (Kd.int .i64) _ 3 ?hg (N := 50) ?hd (xs := ([0, 2, 1, 4, 3] : List Int)) (inner := [.int .i64 0, .int .i64 2, .int .i64 1, .int .i64 4, .int .i64 3]) (ok := fun _ => True) (okp := fun _ => True) ?hr ?hp (fun _ hk => hk) trivial (Below.refl _ _) (Nat.le_refl _) (by simp) ?_; (case hd => rfl); (case hg => rfl); (case hr => first | (go_simp; done) | (go_simp; rfl)); (case hp => exact (Reps.one (show Kd.M (Kd.int .i64) _ _ _ 0 [.int .i64 0] from rfl) (Reps.one (show Kd.M (Kd.int .i64) _ _ _ 2 [.int .i64 2] from rfl) (Reps.one (show Kd.M (Kd.int .i64) _ _ _ 1 [.int .i64 1] from rfl) (Reps.one (show Kd.M (Kd.int .i64) _ _ _ 4 [.int .i64 4] from rfl) (Reps.one (show Kd.M (Kd.int .i64) _ _ _ 3 [.int .i64 3] from rfl) (Reps.none _ _))))))); intro v460 w27 ho28 hb hg_ hnew_; clear hg_ hnew_; (first | rw [← Ny459.out] at ho28 | (simp only [Int.reduceToNat] at ho28; rw [← Ny459.out] at ho28)); have n0_ := Aside0.mk (Kd.R_lower ho28 (below_size (by repeat (first | (with_reducible first | exact HB.out | apply below_alloc | apply pw_below_drewN | apply below_drew1) | exact HB.out)))); have n1_ := Aside0.mk (below_step (by repeat (first | (with_reducible first | exact HB.out | apply below_alloc | apply pw_below_drewN | apply below_drew1) | exact HB.out)) hb); clear HB; have HO461 := n0_; have HB := n1_; clear n0_ n1_; clear hb ho28))
       go_loopg [12] kj16 (fun kq v12 w' => ∃ (x12_3 : Int), v12 = .int .i64 x12_3 ∧ Aside0 (belfrylaw04_AttrFits.l0 kq l0 l1 y459 x12_3 = some r) ∧ Aside0 (kq ≤ kj16) ∧ Aside0 (Kd.R (Kd.int .i64) 3 w' w.heap.size (fun _ => True) v460 y459) ∧ Aside0 (Below w.heap.size w w'))
       case atStart => exact ⟨(0), (by first | rfl | (simp; done) | (simp [*]; done)), H', ⟨Nat.le_refl _⟩, ⟨by (with_reducible repeat (first | apply Kd.R_alloc | apply Kd.R_drewN | apply Kd.R_drew)); exact HO461.out⟩, ⟨by repeat (first | (with_reducible first | exact HB.out | apply below_alloc | apply pw_below_drewN | apply below_drew1) | exact HB.out)⟩⟩
       case round =>
        clear H'
        try clear c1
        try clear c2
        try clear p2
        try clear c3
        try clear c6
        try clear c10
        try clear c10b0
        try clear c10b1
        try clear c10b2
        try clear c15
        try clear c19
        try clear c19b0
        try clear c19b1
        try clear c21
        try clear c26
        try clear c28
        try clear p2
        obtain ⟨x12_3, rfl, HA, HK3, HO_11, HB⟩ := hrel
        cases gk with
        | zero => exact absurd HA.out (by simp [belfrylaw04_AttrFits.l0])
        | succ k3 =>
         have H := HA.out
         clear HA
         simp only [belfrylaw04_AttrFits.l0] at H
         have HC29 := Aside0.mk H
         clear H
         go_upto_region 10 with (fail)
         go_cut [58] (fun v58 wc => ∃ (kq : Nat) (x58_28 : Bool), v58 = .bool x58_28 ∧ Aside0 (belfrylaw04_AttrFits.j3 kq l0 l1 y459 x12_3 x58_28 = some r) ∧ Aside0 (kq ≤ k3) ∧ Aside0 (Kd.R (Kd.int .i64) 3 wc w.heap.size (fun _ => True) v460 y459) ∧ Aside0 (Below w.heap.size w wc))
         case first =>
          have H := HC29.out
          clear HC29
          by_cases c30 : x12_3 < (l1.length : Int)
          ·
           rw [if_pos c30] at H
           have c30b0 : decide (x12_3 < (l1.length : Int)) = true := decide_eq_true c30
           clear c30
           (first | rw [c30b0] | (simp only [i64_w, i32_w]; rw [c30b0]) | skip)
           have H' := Aside0.mk H
           clear H
           go_wp2
           go_meet
           case rel => exact ⟨_, (decide (x12_3 < 20)), (by first | rfl | (simp; done) | (simp [*]; done)), H', ⟨by have := HJ5.out; have := HJ16.out; have := HK3.out; first | omega | exact Nat.le_refl _⟩, ⟨by (with_reducible repeat (first | apply Kd.R_alloc | apply Kd.R_drewN | apply Kd.R_drew)); exact HO_11.out⟩, ⟨by repeat (first | (with_reducible first | exact HB.out | apply below_alloc | apply pw_below_drewN | apply below_drew1) | exact HB.out)⟩⟩
          ·
           rw [if_neg c30] at H
           have c30b0 : decide (x12_3 < (l1.length : Int)) = false := decide_eq_false c30
           clear c30
           (first | rw [c30b0] | (simp only [i64_w, i32_w]; rw [c30b0]) | skip)
           have H' := Aside0.mk H
           clear H
           go_wp2
           go_meet
           case rel => exact ⟨_, (false), (by first | rfl | (simp; done) | (simp [*]; done)), H', ⟨by have := HJ5.out; have := HJ16.out; have := HK3.out; first | omega | exact Nat.le_refl _⟩, ⟨by (with_reducible repeat (first | apply Kd.R_alloc | apply Kd.R_drewN | apply Kd.R_drew)); exact HO_11.out⟩, ⟨by repeat (first | (with_reducible first | exact HB.out | apply below_alloc | apply pw_below_drewN | apply below_drew1) | exact HB.out)⟩⟩
         case rest =>
          clear HC29
          try clear c1
          try clear c2
          try clear p2
          try clear c3
          try clear c6
          try clear c10
          try clear c10b0
          try clear c10b1
          try clear c10b2
          try clear c15
          try clear c19
          try clear c19b0
          try clear c19b1
          try clear c21
          try clear c26
          try clear c28
          try clear c29
          try clear c30
          try clear c30b0
          try clear p2
          obtain ⟨kq, x58_28, rfl, HA, HJ28, HO_11, HB⟩ := hcut
          cases kq with
          | zero => exact absurd HA.out (by simp [belfrylaw04_AttrFits.j3])
          | succ kj28 =>
           have H := HA.out
           clear HA
           simp only [belfrylaw04_AttrFits.j3] at H
           by_cases c31 : x58_28 = true
           ·
            subst c31
            have H1 : (if 0 ≤ x12_3 then (if x12_3 < (l1.length : Int) then (if ((rd_T54 l1 x12_3).f0) < 1 then (belfrylaw04_AttrFits.j4 kj28 l0 l1 y459 x12_3 true) else (belfrylaw04_AttrFits.j4 kj28 l0 l1 y459 x12_3 (decide (((rd_T54 l1 x12_3).f0) > 4)))) else (none)) else (none)) = some r := by rw [if_pos rfl] at H; exact H
            clear H
            have H := H1
            clear H1
            have HC32 := Aside0.mk H
            clear H
            go_upto_region 12 with (fail)
            go_cut [74] (fun v74 wc => ∃ (kq : Nat) (x74_31 : Bool), v74 = .bool x74_31 ∧ Aside0 (belfrylaw04_AttrFits.j4 kq l0 l1 y459 x12_3 x74_31 = some r) ∧ Aside0 (kq ≤ kj28) ∧ Aside0 (Kd.R (Kd.int .i64) 3 wc w.heap.size (fun _ => True) v460 y459) ∧ Aside0 (Below w.heap.size w wc))
            case first =>
             have H := HC32.out
             clear HC32
             by_cases c33 : 0 ≤ x12_3
             ·
              rw [if_pos c33] at H
              have c33b0 : decide (0 ≤ x12_3) = true := decide_eq_true c33
              clear c33
              (first | rw [c33b0] | (simp only [i64_w, i32_w]; rw [c33b0]) | skip)
              by_cases c34 : x12_3 < (l1.length : Int)
              ·
               rw [if_pos c34] at H
               have c34b0 : decide (x12_3 < (l1.length : Int)) = true := decide_eq_true c34
               clear c34
               by_cases c35 : ((rd_T54 l1 x12_3).f0) < 1
               ·
                rw [if_pos c35] at H
                have c35b0 : decide (((rd_T54 l1 x12_3).f0) < 1) = true := decide_eq_true c35
                clear c35
                have H' := Aside0.mk H
                clear H
                have p463 : 0 ≤ (x12_3 : Int) := of_decide_eq_true (by first | (with_reducible assumption) | assumption)
                have q463 : x12_3 < (l1.length : Int) := of_decide_eq_true (by first | (with_reducible assumption) | assumption)
                obtain ⟨ad463, e463, hx463_0, hx463_1, hx463_2⟩ := at_T54 HR1.out x12_3 p463 q463
                cases e463
                replace hx463_0 := (HB.out.cell (World.block_lt_of_cell? w _ hx463_0)).trans hx463_0
                replace hx463_1 := (HB.out.cell (World.block_lt_of_cell? w _ hx463_1)).trans hx463_1
                replace hx463_2 := (HB.out.cell (World.block_lt_of_cell? w _ hx463_2)).trans hx463_2
                replace p463 := eq_true p463
                replace q463 := eq_true q463
                go_wp2
                go_meet
                case rel => exact ⟨_, (true), (by first | rfl | (simp; done) | (simp [*]; done)), H', ⟨by have := HJ5.out; have := HJ16.out; have := HK3.out; have := HJ28.out; first | omega | exact Nat.le_refl _⟩, ⟨by (with_reducible repeat (first | apply Kd.R_alloc | apply Kd.R_drewN | apply Kd.R_drew)); exact HO_11.out⟩, ⟨by repeat (first | (with_reducible first | exact HB.out | apply below_alloc | apply pw_below_drewN | apply below_drew1) | exact HB.out)⟩⟩
               ·
                rw [if_neg c35] at H
                have c35b0 : decide (((rd_T54 l1 x12_3).f0) < 1) = false := decide_eq_false c35
                clear c35
                have H' := Aside0.mk H
                clear H
                have p463 : 0 ≤ (x12_3 : Int) := of_decide_eq_true (by first | (with_reducible assumption) | assumption)
                have q463 : x12_3 < (l1.length : Int) := of_decide_eq_true (by first | (with_reducible assumption) | assumption)
                obtain ⟨ad463, e463, hx463_0, hx463_1, hx463_2⟩ := at_T54 HR1.out x12_3 p463 q463
                cases e463
                replace hx463_0 := (HB.out.cell (World.block_lt_of_cell? w _ hx463_0)).trans hx463_0
                replace hx463_1 := (HB.out.cell (World.block_lt_of_cell? w _ hx463_1)).trans hx463_1
                replace hx463_2 := (HB.out.cell (World.block_lt_of_cell? w _ hx463_2)).trans hx463_2
                replace p463 := eq_true p463
                replace q463 := eq_true q463
                have p464 : 0 ≤ (x12_3 : Int) := of_decide_eq_true (by first | (with_reducible assumption) | assumption)
                have q464 : x12_3 < (l1.length : Int) := of_decide_eq_true (by first | (with_reducible assumption) | assumption)
                obtain ⟨ad464, e464, hx464_0, hx464_1, hx464_2⟩ := at_T54 HR1.out x12_3 p464 q464
                obtain rfl : ad463 = ad464 := (by injection e464)
                replace hx464_0 := (HB.out.cell (World.block_lt_of_cell? w _ hx464_0)).trans hx464_0
                replace hx464_1 := (HB.out.cell (World.block_lt_of_cell? w _ hx464_1)).trans hx464_1
                replace hx464_2 := (HB.out.cell (World.block_lt_of_cell? w _ hx464_2)).trans hx464_2
                replace p464 := eq_true p464
                replace q464 := eq_true q464
                go_wp2
                go_meet
                case rel => exact ⟨_, (decide (((rd_T54 l1 x12_3).f0) > 4)), (by first | rfl | (simp; done) | (simp [*]; done)), H', ⟨by have := HJ5.out; have := HJ16.out; have := HK3.out; have := HJ28.out; first | omega | exact Nat.le_refl _⟩, ⟨by (with_reducible repeat (first | apply Kd.R_alloc | apply Kd.R_drewN | apply Kd.R_drew)); exact HO_11.out⟩, ⟨by repeat (first | (with_reducible first | exact HB.out | apply below_alloc | apply pw_below_drewN | apply below_drew1) | exact HB.out)⟩⟩
              ·
               rw [if_neg c34] at H
               exact absurd H (by simp)
             ·
              rw [if_neg c33] at H
              exact absurd H (by simp)
            case rest =>
             clear HC32
             try clear c1
             try clear c2
             try clear p2
             try clear c3
             try clear p4
             try clear q4
             try clear hx4
             try clear c6
             try clear c10
             try clear c10b0
             try clear c10b1
             try clear c10b2
             try clear c15
             try clear c19
             try clear c19b0
             try clear c19b1
             try clear c21
             try clear c26
             try clear c28
             try clear c29
             try clear c30
             try clear c30b0
             try clear c31
             try clear c33
             try clear c33b0
             try clear c34
             try clear c34b0
             try clear c35
             try clear c35b0
             try clear hx463_0
             try clear hx463_1
             try clear hx463_2
             try clear hx464_0
             try clear hx464_1
             try clear hx464_2
             try clear p2
             try clear p463
             try clear p464
             try clear q463
             try clear q464
             obtain ⟨kq, x74_31, rfl, HA, HJ31, HO_11, HB⟩ := hcut
             cases kq with
             | zero => exact absurd HA.out (by simp [belfrylaw04_AttrFits.j4])
             | succ kj31 =>
              have H := HA.out
              clear HA
              simp only [belfrylaw04_AttrFits.j4] at H
              by_cases c36 : x74_31 = true
              ·
               subst c36
               have H1 : (belfrylaw04_AttrFits.l0 kj31 l0 l1 y459 (wrap64 (x12_3 + 1))) = some r := by rw [if_pos rfl] at H; exact H
               clear H
               have H := H1
               clear H1
               have H' := Aside0.mk H
               clear H
               go_wp2
               go_roundg kj31
               case measure => have := HJ5.out; have := HJ16.out; have := HK3.out; have := HJ28.out; have := HJ31.out; omega
               case rel => exact ⟨(wrap64 (x12_3 + 1)), (by first | rfl | (simp; done) | (simp [*]; done)), H', ⟨by have := HJ5.out; have := HJ16.out; have := HK3.out; have := HJ28.out; have := HJ31.out; omega⟩, ⟨by (with_reducible repeat (first | apply Kd.R_alloc | apply Kd.R_drewN | apply Kd.R_drew)); exact HO_11.out⟩, ⟨by repeat (first | (with_reducible first | exact HB.out | apply below_alloc | apply pw_below_drewN | apply below_drew1) | exact HB.out)⟩⟩
              ·
               replace c36 := Bool.eq_false_iff.mpr c36
               subst c36
               have H1 : (if 0 ≤ x12_3 then (if x12_3 < (l1.length : Int) then (if 0 ≤ ((rd_T54 l1 x12_3).f0) then (if ((rd_T54 l1 x12_3).f0) < (y459.length : Int) then (if x12_3 ≤ (wrap64 (x12_3 + 1)) then (if (wrap64 (x12_3 + 1)) ≤ (l1.length : Int) then ((attr_Fits.f kj31 l0 ((l1.take ((wrap64 (x12_3 + 1)) : Int).toNat).drop (x12_3 : Int).toNat)).bind fun t472 => ((attr_Fits.f kj31 l0 (([(⟨rd y459 ((rd_T54 l1 x12_3).f0), (rd_T54 l1 x12_3).f1, (rd_T54 l1 x12_3).f2⟩ : S54)] : List (S54)))).bind fun t476 => (if (t472 == t476) = true then (some false) else (belfrylaw04_AttrFits.l0 kj31 l0 l1 y459 (wrap64 (x12_3 + 1)))))) else (none)) else (none)) else (none)) else (none)) else (none)) else (none)) = some r := by rw [if_neg (show ¬ (false = true) by decide)] at H; exact H
               clear H
               have H := H1
               clear H1
               by_cases c37 : 0 ≤ x12_3
               ·
                rw [if_pos c37] at H
                have c37b0 : decide (0 ≤ x12_3) = true := decide_eq_true c37
                clear c37
                by_cases c38 : x12_3 < (l1.length : Int)
                ·
                 rw [if_pos c38] at H
                 have c38b0 : decide (x12_3 < (l1.length : Int)) = true := decide_eq_true c38
                 clear c38
                 by_cases c39 : 0 ≤ ((rd_T54 l1 x12_3).f0)
                 ·
                  rw [if_pos c39] at H
                  have c39b0 : decide (0 ≤ ((rd_T54 l1 x12_3).f0)) = true := decide_eq_true c39
                  clear c39
                  by_cases c40 : ((rd_T54 l1 x12_3).f0) < (y459.length : Int)
                  ·
                   rw [if_pos c40] at H
                   have c40b0 : decide (((rd_T54 l1 x12_3).f0) < (y459.length : Int)) = true := decide_eq_true c40
                   clear c40
                   have c41b0 := eq_true (of_decide_eq_true (by first | (with_reducible assumption) | assumption) : 0 ≤ x12_3)
                   by_cases c42 : x12_3 ≤ (wrap64 (x12_3 + 1))
                   ·
                    rw [if_pos c42] at H
                    have c42b0 := eq_true c42
                    have c42b1 : decide (x12_3 ≤ (wrap64 (x12_3 + 1))) = true := decide_eq_true c42
                    by_cases c43 : (wrap64 (x12_3 + 1)) ≤ (l1.length : Int)
                    ·
                     rw [if_pos c43] at H
                     have c43b0 := eq_true c43
                     have c43b1 : decide ((wrap64 (x12_3 + 1)) ≤ (l1.length : Int)) = true := decide_eq_true c43
                     obtain ⟨y468, hy468⟩ : ∃ y_ : List (S54), y_ = ((l1.take ((wrap64 (x12_3 + 1)) : Int).toNat).drop (x12_3 : Int).toNat) := ⟨_, rfl⟩
                     replace H : ((attr_Fits.f kj31 l0 y468).bind fun t472 => ((attr_Fits.f kj31 l0 (([(⟨rd y459 ((rd_T54 l1 x12_3).f0), (rd_T54 l1 x12_3).f1, (rd_T54 l1 x12_3).f2⟩ : S54)] : List (S54)))).bind fun t476 => (if (t472 == t476) = true then (some false) else (belfrylaw04_AttrFits.l0 kj31 l0 l1 y459 (wrap64 (x12_3 + 1)))))) = some r := by first | (rw [hy468]; with_reducible exact H) | (have H2_ := (Option.bind_some _ _).symm.trans H; rw [hy468]; with_reducible exact H2_) | (have H2_ := (Option.bind_some _ _).symm.trans H; with_reducible exact H2_) | with_reducible exact H | (rw [hy468]; exact H) | exact H
                     have Ny468 := Aside0.mk hy468
                     clear hy468
                     replace H := Option.bind_eq_some_iff.mp H
                     obtain ⟨t472, A440, H⟩ := H
                     replace H : ((attr_Fits.f kj31 l0 (([(⟨rd y459 ((rd_T54 l1 x12_3).f0), (rd_T54 l1 x12_3).f1, (rd_T54 l1 x12_3).f2⟩ : S54)] : List (S54)))).bind fun t476 => (if (t472 == t476) = true then (some false) else (belfrylaw04_AttrFits.l0 kj31 l0 l1 y459 (wrap64 (x12_3 + 1))))) = some r := H
                     have A44 := Aside0.mk A440
                     clear A440
                     obtain ⟨y473, hy473⟩ : ∃ y_ : List (S54), y_ = (([(⟨rd y459 ((rd_T54 l1 x12_3).f0), (rd_T54 l1 x12_3).f1, (rd_T54 l1 x12_3).f2⟩ : S54)] : List (S54))) := ⟨_, rfl⟩
                     replace H : ((attr_Fits.f kj31 l0 y473).bind fun t476 => (if (t472 == t476) = true then (some false) else (belfrylaw04_AttrFits.l0 kj31 l0 l1 y459 (wrap64 (x12_3 + 1))))) = some r := by first | (rw [hy473]; with_reducible exact H) | (have H2_ := (Option.bind_some _ _).symm.trans H; rw [hy473]; with_reducible exact H2_) | (have H2_ := (Option.bind_some _ _).symm.trans H; with_reducible exact H2_) | with_reducible exact H | (rw [hy473]; exact H) | exact H
                     have Ny473 := Aside0.mk hy473
                     clear hy473
                     replace H := Option.bind_eq_some_iff.mp H
                     obtain ⟨t476, A450, H⟩ := H
                     replace H : (if (t472 == t476) = true then (some false) else (belfrylaw04_AttrFits.l0 kj31 l0 l1 y459 (wrap64 (x12_3 + 1)))) = some r := H
                     have A45 := Aside0.mk A450
                     clear A450
                     by_cases c46 : (t472 == t476) = true
                     ·
                      rw [if_pos c46] at H
                      have c46b0 : (t472 == t476) = true := c46
                      (try (have c46b1 : decide (t472 = t476) = true := by simpa using c46))
                      (try (have c46b2 : (t472 == t476) = true := by simpa using c46))
                      clear c46
                      obtain rfl := Option.some.inj H
                      have p465 : 0 ≤ (x12_3 : Int) := of_decide_eq_true (by first | (with_reducible assumption) | assumption)
                      have q465 : x12_3 < (l1.length : Int) := of_decide_eq_true (by first | (with_reducible assumption) | assumption)
                      obtain ⟨ad465, e465, hx465_0, hx465_1, hx465_2⟩ := at_T54 HR1.out x12_3 p465 q465
                      cases e465
                      replace hx465_0 := (HB.out.cell (World.block_lt_of_cell? w _ hx465_0)).trans hx465_0
                      replace hx465_1 := (HB.out.cell (World.block_lt_of_cell? w _ hx465_1)).trans hx465_1
                      replace hx465_2 := (HB.out.cell (World.block_lt_of_cell? w _ hx465_2)).trans hx465_2
                      replace p465 := eq_true p465
                      replace q465 := eq_true q465
                      try go_wp2_with (first | ((with_reducible refine gate_dst (N := 13) rfl ?_); refine box_event ?hg (N := 13) ?hd (cs := #[.int .i64 0, .string (⟨#[]⟩ : ByteArray), .string (⟨#[]⟩ : ByteArray)]) (t := 54) ?hr ?_; (case hd => rfl); (case hg => rfl); (case hr => first | (go_simp; done) | (go_simp; rfl)); intro gb466 hg w47 hbox hb; have n0_ := Aside0.mk (Kd.R_below (by (with_reducible repeat (first | apply Kd.R_alloc | apply Kd.R_drewN | apply Kd.R_drew)); exact HO_11.out) hb); have n1_ := Aside0.mk (below_step (by repeat (first | (with_reducible first | exact HB.out | apply below_alloc | apply pw_below_drewN | apply below_drew1) | exact HB.out)) hb); have n2_ := Aside0.mk (hbox); have n3_ := Aside0.mk ((by rw [hg]; exact (below_size (by repeat (first | (with_reducible first | exact HB.out | apply below_alloc | apply pw_below_drewN | apply below_drew1) | exact HB.out))) : w.heap.size ≤ gb466)); have n4_ := Aside0.mk ((by rw [hg]; exact (below_size (by repeat (first | (with_reducible first | exact HB.out | apply below_alloc | apply pw_below_drewN | apply below_drew1) | exact HB.out))) : w.heap.size ≤ gb466)); clear HO_11; clear HB; have HO_11 := n0_; have HB := n1_; have BK466 := n2_; have GW466 := n3_; have GE466 := n4_; clear n0_ n1_ n2_ n3_ n4_; clear hb hbox hg; have hcz48_0 : w47.cell? ⟨gb466, 0, none⟩ = some (.int .i64 0) := (blk_cell BK466.out 0).trans rfl; have hcz48_1 : w47.cell? ⟨gb466, 1, none⟩ = some (.string (⟨#[]⟩ : ByteArray)) := (blk_cell BK466.out 1).trans rfl; have hcz48_2 : w47.cell? ⟨gb466, 2, none⟩ = some (.string (⟨#[]⟩ : ByteArray)) := (blk_cell BK466.out 2).trans rfl; have hfz48_0 := blk_frozen BK466.out 0; have hfz48_1 := blk_frozen BK466.out 1; have hfz48_2 := blk_frozen BK466.out 2; obtain ⟨Ao49, co49, eo49⟩ := Kd.R_slice HO_11.out; subst eo49; have p467 : 0 ≤ (((rd_T54 l1 x12_3).f0) : Int) := of_decide_eq_true (by first | (with_reducible assumption) | assumption); have q467 : ((rd_T54 l1 x12_3).f0) < (y459.length : Int) := of_decide_eq_true (by first | (with_reducible assumption) | assumption); obtain ⟨ad467, e467, hx467_0⟩ := Kd.at_int (Kd.R_reads' HO_11.out).2.2 ((rd_T54 l1 x12_3).f0) p467 q467; cases e467; have hn467_0 : ad467.block ≠ gb466 := Kd.own_blk (Kd.R_ne HO_11.out BK466.out (by decide)); have hn467_1 : ad467.block ≠ gb466 := Kd.own_blk (Kd.R_ne HO_11.out BK466.out (by decide)); have hn467_2 : ad467.block ≠ gb466 := Kd.own_blk (Kd.R_ne HO_11.out BK466.out (by decide)); replace hx467_0 := (cell_far (p := ⟨gb466, 0, none⟩) (by first | (rw [add_block]; exact hn467_0) | (show (Addr.add _ _).block ≠ _; rw [add_block]; exact hn467_0) | exact hn467_0) (.int .i64 ((rd_T54 l1 x12_3).f0))).trans hx467_0; replace hx467_0 := (cell_far (p := ⟨gb466, 1, none⟩) (by first | (rw [add_block]; exact hn467_1) | (show (Addr.add _ _).block ≠ _; rw [add_block]; exact hn467_1) | exact hn467_1) (.string ((rd_T54 l1 x12_3).f1))).trans hx467_0; replace hx467_0 := (cell_far (p := ⟨gb466, 2, none⟩) (by first | (rw [add_block]; exact hn467_2) | (show (Addr.add _ _).block ≠ _; rw [add_block]; exact hn467_2) | exact hn467_2) (.string ((rd_T54 l1 x12_3).f2))).trans hx467_0; clear hn467_0; clear hn467_1; clear hn467_2; replace p467 := eq_true p467; replace q467 := eq_true q467))
                      have n0_ : Aside0 (Kd.R (Kd.int .i64) 3 ((((w47.setCell ⟨gb466, 0, none⟩ (.int .i64 ((rd_T54 l1 x12_3).f0))).setCell ⟨gb466, 1, none⟩ (.string ((rd_T54 l1 x12_3).f1))).setCell ⟨gb466, 2, none⟩ (.string ((rd_T54 l1 x12_3).f2))).setCell ⟨gb466, 0, none⟩ (.int .i64 (rd y459 ((rd_T54 l1 x12_3).f0)))) w.heap.size (fun _ => True) (.slice (some ad467) y459.length co49) y459) := ⟨by (with_reducible repeat (first | apply Kd.R_alloc | apply Kd.R_drewN | apply Kd.R_drew)); exact Kd.R_mono (Kd.R_far (p := ⟨gb466, 0, none⟩) (Kd.R_far (p := ⟨gb466, 2, none⟩) (Kd.R_far (p := ⟨gb466, 1, none⟩) (Kd.R_far (p := ⟨gb466, 0, none⟩) (Kd.R_types HO_11.out BK466.out (by decide)) (fun _ hk => hk.2) (.int .i64 ((rd_T54 l1 x12_3).f0))) (fun _ hk => hk.2) (.string ((rd_T54 l1 x12_3).f1))) (fun _ hk => hk.2) (.string ((rd_T54 l1 x12_3).f2))) (fun _ hk => hk.2) (.int .i64 (rd y459 ((rd_T54 l1 x12_3).f0)))) (fun _ hk => trivial)⟩
                      have n1_ : Aside0 (((((w47.setCell ⟨gb466, 0, none⟩ (.int .i64 ((rd_T54 l1 x12_3).f0))).setCell ⟨gb466, 1, none⟩ (.string ((rd_T54 l1 x12_3).f1))).setCell ⟨gb466, 2, none⟩ (.string ((rd_T54 l1 x12_3).f2))).setCell ⟨gb466, 0, none⟩ (.int .i64 (rd y459 ((rd_T54 l1 x12_3).f0)))).heap[gb466]? = some (.cells #[.int .i64 (rd y459 ((rd_T54 l1 x12_3).f0)), .string ((rd_T54 l1 x12_3).f1), .string ((rd_T54 l1 x12_3).f2)] 54 (0, 0))) := ⟨by (with_reducible repeat (first | refine blk_drewN ?_ _ | refine blk_drew ?_ | refine blk_alloc ?_ _)); refine blk_put (cs := #[.int .i64 ((rd_T54 l1 x12_3).f0), .string ((rd_T54 l1 x12_3).f1), .string ((rd_T54 l1 x12_3).f2)]) ?_ 0 _ rfl; (with_reducible repeat (first | refine blk_drewN ?_ _ | refine blk_drew ?_ | refine blk_alloc ?_ _)); refine blk_put (cs := #[.int .i64 ((rd_T54 l1 x12_3).f0), .string ((rd_T54 l1 x12_3).f1), .string (⟨#[]⟩ : ByteArray)]) ?_ 2 _ rfl; (with_reducible repeat (first | refine blk_drewN ?_ _ | refine blk_drew ?_ | refine blk_alloc ?_ _)); refine blk_put (cs := #[.int .i64 ((rd_T54 l1 x12_3).f0), .string (⟨#[]⟩ : ByteArray), .string (⟨#[]⟩ : ByteArray)]) ?_ 1 _ rfl; (with_reducible repeat (first | refine blk_drewN ?_ _ | refine blk_drew ?_ | refine blk_alloc ?_ _)); refine blk_put (cs := #[.int .i64 0, .string (⟨#[]⟩ : ByteArray), .string (⟨#[]⟩ : ByteArray)]) ?_ 0 _ rfl; (with_reducible repeat (first | refine blk_drewN ?_ _ | refine blk_drew ?_ | refine blk_alloc ?_ _)); exact BK466.out⟩
                      have n2_ : Aside0 (Below w.heap.size w ((((w47.setCell ⟨gb466, 0, none⟩ (.int .i64 ((rd_T54 l1 x12_3).f0))).setCell ⟨gb466, 1, none⟩ (.string ((rd_T54 l1 x12_3).f1))).setCell ⟨gb466, 2, none⟩ (.string ((rd_T54 l1 x12_3).f2))).setCell ⟨gb466, 0, none⟩ (.int .i64 (rd y459 ((rd_T54 l1 x12_3).f0))))) := ⟨by repeat (first | (with_reducible first | exact HB.out | apply below_alloc | apply pw_below_drewN | apply below_drew1 | refine below_set ?_ GE466.out) | exact HB.out)⟩
                      (try clear HO_11)
                      (try clear BK466)
                      (try clear HB)
                      generalize ((((w47.setCell ⟨gb466, 0, none⟩ (.int .i64 ((rd_T54 l1 x12_3).f0))).setCell ⟨gb466, 1, none⟩ (.string ((rd_T54 l1 x12_3).f1))).setCell ⟨gb466, 2, none⟩ (.string ((rd_T54 l1 x12_3).f2))).setCell ⟨gb466, 0, none⟩ (.int .i64 (rd y459 ((rd_T54 l1 x12_3).f0)))) = w50 at n0_ n1_ n2_ ⊢
                      have HO_11 := n0_
                      have BK466 := n1_
                      have HB := n2_
                      clear n0_ n1_ n2_
                      have n0_ := Aside0.mk (Kd.R_drew HO_11.out)
                      have n1_ := Aside0.mk (blk_drew BK466.out)
                      have n2_ := Aside0.mk (below_drew1 HB.out)
                      clear HO_11
                      clear BK466
                      clear HB
                      have HO_11 := n0_
                      have BK466 := n1_
                      have HB := n2_
                      clear n0_ n1_ n2_
                      have q52 : ((wrap64 (x12_3 + 1)) : Int) ≤ ((l1.length : Int) : Int) := of_decide_eq_true (by first | (with_reducible assumption) | assumption)
                      obtain ⟨i052, hi052, _, hsz52, _⟩ := info_parts info54
                      have hroom52 : l1.length ≤ c1 := HC1.out
                      have hC52 : Kd.C k54 _ (some ad465) l1.length l1 := HR1.out
                      have ql52 : (x12_3 : Int) ≤ ((wrap64 (x12_3 + 1)) : Int) := of_decide_eq_true (by first | (with_reducible assumption) | assumption)
                      have q052 : (0 : Int) ≤ (x12_3 : Int) := of_decide_eq_true (by first | (with_reducible assumption) | assumption)
                      have hcut52 := cut_mid (P := Tryz.prog) 48 54 .i64 .i64 Tryz.underlying48 hi052 3 hsz52 (some ad465) l1.length c1 x12_3 (wrap64 (x12_3 + 1)) q052 ql52 q52 hroom52
                      have hr52 := Kd.C_mid (lo := (x12_3 : Int).toNat) (hi := ((wrap64 (x12_3 + 1)) : Int).toNat) (c := c1) hC52 (by omega) (by omega) hroom52
                      obtain ⟨A52, hA52⟩ : ∃ A1, A1 = (if c1 = (x12_3 : Int).toNat then (some ad465) else ((some ad465) : Option Addr).map (·.add ((x12_3 : Int).toNat * 3))) := ⟨_, rfl⟩
                      obtain ⟨c52, hc52⟩ : ∃ cZ_, cZ_ = c1 - (x12_3 : Int).toNat := ⟨_, rfl⟩
                      have hy52 : y468.length = ((wrap64 (x12_3 + 1)) : Int).toNat - (x12_3 : Int).toNat := (by rw [Ny468.out, List.length_drop, List.length_take] <;> omega)
                      rw [show ((l1).take ((wrap64 (x12_3 + 1)) : Int).toNat).drop (x12_3 : Int).toNat = y468 from Ny468.out.symm] at hr52
                      replace hr52 : Kd.C k54 _ A52 y468.length y468 := (by rw [hA52]; exact hr52)
                      rw [← hy52, ← hA52, ← hc52] at hcut52
                      have HR471 := Aside0.mk hr52
                      have HC471 := Aside0.mk (show y468.length ≤ c52 from by rw [hy52, hc52]; exact Nat.sub_le_sub_right (Nat.le_trans (by omega) hroom52) _)
                      clear hr52 hC52 hroom52 hi052 hsz52 hc52
                      have KY52 := Aside0.mk hy52
                      have KA52 := Aside0.mk hA52
                      clear hy52 hA52
                      replace q52 := eq_true q52
                      refine start_ (n := 12) (S := fun w' => True) (ds := []) #[false, false, false, false, false, false, false, false, false, false, false, false] (by kernel_rfl) rfl rfl trivial (fun hHeld => ?_); refine with_tabW belfrylaw04_AttrFits.tab15 belfrylaw04_AttrFits.bits15 (fun HT_ HW_ => ?_)
                      generalize w50.drew = w51 at HO_11 BK466 HB HR471 hHeld ⊢
                      refine pure_ (i := 0) (N := some 85) (v := ?_) (a' := ?_) #[true, false, false, false, false, false, false, false, false, false, false, false] rfl rfl (any_of HT_.out (by kernel_rfl)) (fun _ _ _ h => h) (Or.inl ⟨by rfl, ?_⟩) ?_ ?_
                      rotate_left
                      ·
                       intro w'
                       go_simp
                       with_reducible rfl
                      rotate_left
                      ·
                       simp only [Act.put, List.setIfInBounds_toArray, List.set_cons_zero, List.set_cons_succ, i64_w, i32_w]
                       rfl
                      refine pure_ (i := 1) (N := some 86) (v := ?_) (a' := ?_) #[true, true, false, false, false, false, false, false, false, false, false, false] rfl rfl (any_of HT_.out (by kernel_rfl)) (fun _ _ _ h => h) (Or.inl ⟨by rfl, ?_⟩) ?_ ?_
                      rotate_left
                      ·
                       intro w'
                       go_simp
                       with_reducible rfl
                      rotate_left
                      ·
                       simp only [Act.put, List.setIfInBounds_toArray, List.set_cons_zero, List.set_cons_succ, i64_w, i32_w]
                       rfl
                      refine pure_ (i := 2) (N := some 87) (v := ?_) (a' := ?_) #[true, true, true, false, false, false, false, false, false, false, false, false] rfl rfl (any_of HT_.out (by kernel_rfl)) (fun _ _ _ h => h) (Or.inl ⟨by rfl, ?_⟩) ?_ ?_
                      rotate_left
                      ·
                       intro w'
                       go_simp
                       with_reducible rfl
                      rotate_left
                      ·
                       simp only [Act.put, List.setIfInBounds_toArray, List.set_cons_zero, List.set_cons_succ, i64_w, i32_w]
                       rfl
                      refine pure_ (i := 3) (N := some 88) (v := ?_) (a' := ?_) #[true, true, true, true, false, false, false, false, false, false, false, false] rfl rfl (any_of HT_.out (by kernel_rfl)) (fun _ _ _ h => h) (Or.inl ⟨by rfl, ?_⟩) ?_ ?_
                      rotate_left
                      ·
                       intro w'
                       go_simp
                       with_reducible rfl
                      rotate_left
                      ·
                       simp only [Act.put, List.setIfInBounds_toArray, List.set_cons_zero, List.set_cons_succ, i64_w, i32_w]
                       rfl
                      refine pure_ (i := 7) (N := some 92) (v := ?_) (a' := ?_) #[true, true, true, true, false, false, false, true, false, false, false, false] rfl rfl (any_of HT_.out (by kernel_rfl)) (fun _ _ _ h => h) (Or.inl ⟨by rfl, ?_⟩) ?_ ?_
                      rotate_left
                      ·
                       intro w'
                       go_simp
                       with_reducible rfl
                      rotate_left
                      ·
                       simp only [Act.put, List.setIfInBounds_toArray, List.set_cons_zero, List.set_cons_succ, i64_w, i32_w]
                       rfl
                      refine inv_at [4, 5, 6, 8, 9, 10, 11] (fun a0_ b a w' => ∃ (v474 : Value), a = putSel a0_ b [(4, 89, .int .i64 (wrap64 (x12_3 + 1))), (5, 90, .slice A52 y468.length c52), (6, 91, .bool t472), (8, 93, .agg #[.int .i64 (rd y459 ((rd_T54 l1 x12_3).f0)), .string ((rd_T54 l1 x12_3).f1), .string ((rd_T54 l1 x12_3).f2)]), (9, 94, v474), (10, 95, .bool t476), (11, 96, .bool (t472 == t476))] ∧ (Kd.R (Kd.int .i64) 3 w' w.heap.size (fun _ => True) (.slice (some ad467) y459.length co49) y459) ∧ (w'.heap[gb466]? = some (.cells #[.int .i64 (rd y459 ((rd_T54 l1 x12_3).f0)), .string ((rd_T54 l1 x12_3).f1), .string ((rd_T54 l1 x12_3).f2)] 54 (0, 0))) ∧ (Below w.heap.size w w') ∧ (b 9 = true → Kd.R k54 54 w' w.heap.size (fun k_ => k_ ≠ gb466) v474 y473)) HT_.out HW_.out (by kernel_rfl) (by kernel_rfl) ?_ ?_ ?_
                      ·
                       exact ⟨.bool false, by simp only [putSel, Bool.false_eq_true, if_false], HO_11.out, BK466.out, HB.out, fun h_ => absurd h_ (by decide)⟩
                      ·
                       skip
                       clear BK466 HB HO_11
                       refine steps_cons ?_ ?_
                       ·
                        rintro b a w' ⟨v474, ha, Q_HO_11, Q_BK466, Q_HB, Q_HO475⟩ hb_ hon hoff
                        refine ⟨_, rfl, fun K hK => ?_⟩
                        have e88 : a.tmps[88]? = some (.int .i64 x12_3) := by rw [ha]; exact (putSel_off rfl).trans rfl
                        replace ha := Aside0.mk ha
                        have HO_11 := Aside0.mk Q_HO_11
                        have BK466 := Aside0.mk Q_BK466
                        have HB := Aside0.mk Q_HB
                        refine value_ (w1 := w') (v := .int .i64 (wrap64 (x12_3 + 1))) (by rfl) rfl ?_ ?_
                        ·
                         go_simp
                         (try simp only [i64_w])
                         try rfl
                        refine hK.out _ _ ⟨v474, (by rw [ha.out]; exact putSel_upk 0 hb_ rfl rfl rfl), Q_HO_11, Q_BK466, Q_HB, Q_HO475⟩
                       refine steps_cons ?_ ?_
                       ·
                        rintro b a w' ⟨v474, ha, Q_HO_11, Q_BK466, Q_HB, Q_HO475⟩ hb_ hon hoff
                        refine ⟨_, rfl, fun K hK => ?_⟩
                        have e86 : a.tmps[86]? = some (.slice (some ad465) l1.length c1) := by rw [ha]; exact (putSel_off rfl).trans rfl
                        have e87 : a.tmps[87]? = some (.int .i64 x12_3) := by rw [ha]; exact (putSel_off rfl).trans rfl
                        have e89 : a.tmps[89]? = some (.int .i64 (wrap64 (x12_3 + 1))) := by rw [ha]; exact putSel_on (e := (4, 89, .int .i64 (wrap64 (x12_3 + 1)))) 0 rfl rfl (hon 4 (by kernel_rfl)) rfl
                        replace ha := Aside0.mk ha
                        have HO_11 := Aside0.mk Q_HO_11
                        have BK466 := Aside0.mk Q_BK466
                        have HB := Aside0.mk Q_HB
                        refine value_ (w1 := w') (v := .slice A52 y468.length c52) (by rfl) rfl ?_ ?_
                        ·
                         go_simp
                         (try simp only [i64_w])
                         try rfl
                        refine hK.out _ _ ⟨v474, (by rw [ha.out]; exact putSel_upk 1 hb_ rfl rfl rfl), Q_HO_11, Q_BK466, Q_HB, Q_HO475⟩
                       refine steps_cons ?_ ?_
                       ·
                        rintro b a w' ⟨v474, ha, Q_HO_11, Q_BK466, Q_HB, Q_HO475⟩ hb_ hon hoff
                        refine ⟨_, rfl, fun K hK => ?_⟩
                        have e85 : a.tmps[85]? = some (.slice A0 l0.length c0) := by rw [ha]; exact (putSel_off rfl).trans rfl
                        have e90 : a.tmps[90]? = some (.slice A52 y468.length c52) := by rw [ha]; exact putSel_on (e := (5, 90, .slice A52 y468.length c52)) 1 rfl rfl (hon 5 (by kernel_rfl)) rfl
                        replace ha := Aside0.mk ha
                        have HO_11 := Aside0.mk Q_HO_11
                        have BK466 := Aside0.mk Q_BK466
                        have HB := Aside0.mk Q_HB
                        refine goes_ Tryz.func28 (by kernel_rfl) rfl #[.slice A0 l0.length c0, .slice A52 y468.length c52] (by rfl) rfl rfl (by first | (simp only [List.map_toArray, List.map_cons, List.map_nil, Act.eval, Array.getD_eq_getD_getElem?, Option.getD_some, e85, e90]; done) | (simp only [List.map_toArray, List.map_cons, List.map_nil, Act.eval, Array.getD_eq_getD_getElem?, Option.getD_some, e85, e90]; rfl)) ?_
                        with_reducible refine (attr_Fits.calls kj31 _ _ l0 _ _ y468 t472 _ ?side1 ?side2 ?side3 ?side4 A44.out).mono ?_
                        (case side1 => repeat (first | exact (Kd.C_below HR0.out HB.out) | (with_reducible refine Kd.C_alloc ?_ _) | (with_reducible refine Kd.C_drewN ?_ _) | (with_reducible refine Kd.C_drew ?_)))
                        (case side2 => exact HC0.out)
                        (case side3 => repeat (first | exact (Kd.C_below HR471.out HB.out) | (with_reducible refine Kd.C_alloc ?_ _) | (with_reducible refine Kd.C_drewN ?_ _) | (with_reducible refine Kd.C_drew ?_)))
                        (case side4 => exact HC471.out)
                        rintro e w53 ⟨rfl, hb⟩
                        refine ⟨_, rfl, ?_⟩
                        have n0_ := Aside0.mk (Kd.R_below (by (with_reducible repeat (first | apply Kd.R_alloc | apply Kd.R_drewN | apply Kd.R_drew)); exact HO_11.out) hb)
                        have n1_ := Aside0.mk (blk_below (g := gb466) (o := .cells #[.int .i64 (rd y459 ((rd_T54 l1 x12_3).f0)), .string ((rd_T54 l1 x12_3).f1), .string ((rd_T54 l1 x12_3).f2)] 54 (0, 0)) (by (with_reducible repeat (first | refine blk_drewN ?_ _ | refine blk_drew ?_ | refine blk_alloc ?_ _)); exact BK466.out) hb)
                        have n2_ := Aside0.mk (below_step (by repeat (first | (with_reducible first | exact HB.out | apply below_alloc | apply pw_below_drewN | apply below_drew1 | refine below_set ?_ GE466.out) | exact HB.out)) hb)
                        have z_HO475 := fun (h0_ : b 9 = true) => (show Kd.R k54 54 w53 w.heap.size (fun k_ => k_ ≠ gb466) v474 y473 from by first | exact (Kd.R_below (by (with_reducible repeat (first | apply Kd.R_alloc | apply Kd.R_drewN | apply Kd.R_drew)); exact (Q_HO475 h0_)) hb) | exact Kd.R_mono (Kd.R_below (by (with_reducible repeat (first | apply Kd.R_alloc | apply Kd.R_drewN | apply Kd.R_drew)); exact (Q_HO475 h0_)) hb) (fun _ h_ => by first | trivial | exact h_ | exact h_.1))
                        clear HO_11
                        clear BK466
                        clear HB
                        have HO_11 := n0_
                        have BK466 := n1_
                        have HB := n2_
                        clear n0_ n1_ n2_
                        (try clear hb)
                        (try clear hb2)
                        (try clear hk)
                        (try clear hi)
                        refine hK.out _ _ ⟨v474, (by rw [ha.out]; exact putSel_upk 2 hb_ rfl rfl rfl), (by (with_reducible repeat (first | apply Kd.R_alloc | apply Kd.R_drewN | apply Kd.R_drew)); exact HO_11.out), (by (with_reducible repeat (first | refine blk_drewN ?_ _ | refine blk_drew ?_ | refine blk_alloc ?_ _)); exact BK466.out), (by repeat (first | (with_reducible first | exact HB.out | apply below_alloc | apply pw_below_drewN | apply below_drew1 | refine below_set ?_ GE466.out) | exact HB.out)), z_HO475⟩
                       refine steps_cons ?_ ?_
                       ·
                        rintro b a w' ⟨v474, ha, Q_HO_11, Q_BK466, Q_HB, Q_HO475⟩ hb_ hon hoff
                        refine ⟨_, rfl, fun K hK => ?_⟩
                        have e13 : a.tmps[13]? = some (.pointer (some ⟨gb466, 0, none⟩)) := by rw [ha]; exact (putSel_off rfl).trans rfl
                        replace ha := Aside0.mk ha
                        have HO_11 := Aside0.mk Q_HO_11
                        have BK466 := Aside0.mk Q_BK466
                        have HB := Aside0.mk Q_HB
                        have hc0_ : w'.cell? ⟨gb466, 0, none⟩ = some (.int .i64 (rd y459 ((rd_T54 l1 x12_3).f0))) := (blk_cell BK466.out 0).trans rfl
                        have hc1_ : w'.cell? ⟨gb466, 1, none⟩ = some (.string ((rd_T54 l1 x12_3).f1)) := (blk_cell BK466.out 1).trans rfl
                        have hc2_ : w'.cell? ⟨gb466, 2, none⟩ = some (.string ((rd_T54 l1 x12_3).f2)) := (blk_cell BK466.out 2).trans rfl
                        refine value_ (w1 := w') (v := .agg #[.int .i64 (rd y459 ((rd_T54 l1 x12_3).f0)), .string ((rd_T54 l1 x12_3).f1), .string ((rd_T54 l1 x12_3).f2)]) (by rfl) rfl ?_ ?_
                        ·
                         go_simp
                         (try simp only [i64_w])
                         try rfl
                        refine hK.out _ _ ⟨v474, (by rw [ha.out]; exact putSel_upk 3 hb_ rfl rfl rfl), Q_HO_11, Q_BK466, Q_HB, fun h0_ => absurd ((hoff 9 (by kernel_rfl)).symm.trans h0_) (by decide)⟩
                       refine steps_cons ?_ ?_
                       ·
                        rintro b a w' ⟨v474, ha, Q_HO_11, Q_BK466, Q_HB, Q_HO475⟩ hb_ hon hoff
                        refine ⟨_, rfl, fun K hK => ?_⟩
                        have e93 : a.tmps[93]? = some (.agg #[.int .i64 (rd y459 ((rd_T54 l1 x12_3).f0)), .string ((rd_T54 l1 x12_3).f1), .string ((rd_T54 l1 x12_3).f2)]) := by rw [ha]; exact putSel_on (e := (8, 93, .agg #[.int .i64 (rd y459 ((rd_T54 l1 x12_3).f0)), .string ((rd_T54 l1 x12_3).f1), .string ((rd_T54 l1 x12_3).f2)])) 3 rfl rfl (hon 8 (by kernel_rfl)) rfl
                        replace ha := Aside0.mk ha
                        have HO_11 := Aside0.mk Q_HO_11
                        have BK466 := Aside0.mk Q_BK466
                        have HB := Aside0.mk Q_HB
                        refine Kd.R_lit_step k54 _ 54 ?hg (N := 94) ?hd (xs := ([(⟨rd y459 ((rd_T54 l1 x12_3).f0), (rd_T54 l1 x12_3).f1, (rd_T54 l1 x12_3).f2⟩ : S54)] : List (S54))) (inner := [.int .i64 (rd y459 ((rd_T54 l1 x12_3).f0)), .string ((rd_T54 l1 x12_3).f1), .string ((rd_T54 l1 x12_3).f2)]) (ok := fun _ => True) (okp := fun _ => True) ?hr ?hp (fun _ hk => hk) trivial (Below.refl _ _) (Nat.le_refl _) (by simp) ?_; (case hd => rfl); (case hg => rfl); (case hr => first | (go_simp; done) | (go_simp; rfl)); (case hp => exact (Reps.c3 (show Kd.M k54 _ _ _ (⟨rd y459 ((rd_T54 l1 x12_3).f0), (rd_T54 l1 x12_3).f1, (rd_T54 l1 x12_3).f2⟩ : S54) [.int .i64 (rd y459 ((rd_T54 l1 x12_3).f0)), .string ((rd_T54 l1 x12_3).f1), .string ((rd_T54 l1 x12_3).f2)] from (k54_mkM _ _ _ (⟨rd y459 ((rd_T54 l1 x12_3).f0), (rd_T54 l1 x12_3).f1, (rd_T54 l1 x12_3).f2⟩ : S54) )) (Reps.none _ _)))
                        intro v474 w53 ho54 hb hg_ hnew_
                        clear hg_ hnew_
                        (first | rw [← Ny473.out] at ho54 | (simp only [Int.reduceToNat] at ho54; rw [← Ny473.out] at ho54))
                        have n0_ := Aside0.mk (Kd.R_below (by (with_reducible repeat (first | apply Kd.R_alloc | apply Kd.R_drewN | apply Kd.R_drew)); exact HO_11.out) hb)
                        have n1_ := Aside0.mk (Kd.R_lower (Kd.R_newB ho54 (g := gb466) (o := .cells #[.int .i64 (rd y459 ((rd_T54 l1 x12_3).f0)), .string ((rd_T54 l1 x12_3).f1), .string ((rd_T54 l1 x12_3).f2)] 54 (0, 0)) (by (with_reducible repeat (first | refine blk_drewN ?_ _ | refine blk_drew ?_ | refine blk_alloc ?_ _)); exact BK466.out)) (below_size (by repeat (first | (with_reducible first | exact HB.out | apply below_alloc | apply pw_below_drewN | apply below_drew1 | refine below_set ?_ GE466.out) | exact HB.out))))
                        have n2_ := Aside0.mk (blk_below (g := gb466) (o := .cells #[.int .i64 (rd y459 ((rd_T54 l1 x12_3).f0)), .string ((rd_T54 l1 x12_3).f1), .string ((rd_T54 l1 x12_3).f2)] 54 (0, 0)) (by (with_reducible repeat (first | refine blk_drewN ?_ _ | refine blk_drew ?_ | refine blk_alloc ?_ _)); exact BK466.out) hb)
                        have n3_ := Aside0.mk (below_step (by repeat (first | (with_reducible first | exact HB.out | apply below_alloc | apply pw_below_drewN | apply below_drew1 | refine below_set ?_ GE466.out) | exact HB.out)) hb)
                        clear HO_11
                        clear BK466
                        clear HB
                        have HO_11 := n0_
                        have HO475 := n1_
                        have BK466 := n2_
                        have HB := n3_
                        clear n0_ n1_ n2_ n3_
                        clear hb ho54
                        refine hK.out _ _ ⟨v474, (by rw [ha.out]; exact putSel_upk 4 hb_ rfl rfl rfl), (by (with_reducible repeat (first | apply Kd.R_alloc | apply Kd.R_drewN | apply Kd.R_drew)); exact HO_11.out), (by (with_reducible repeat (first | refine blk_drewN ?_ _ | refine blk_drew ?_ | refine blk_alloc ?_ _)); exact BK466.out), (by repeat (first | (with_reducible first | exact HB.out | apply below_alloc | apply pw_below_drewN | apply below_drew1 | refine below_set ?_ GE466.out) | exact HB.out)), fun _ => (by (with_reducible repeat (first | apply Kd.R_alloc | apply Kd.R_drewN | apply Kd.R_drew)); exact Kd.R_mono HO475.out (fun _ hk => hk.2))⟩
                       refine steps_cons ?_ ?_
                       ·
                        rintro b a w' ⟨v474, ha, Q_HO_11, Q_BK466, Q_HB, Q_HO475⟩ hb_ hon hoff
                        refine ⟨_, rfl, fun K hK => ?_⟩
                        have e92 : a.tmps[92]? = some (.slice A0 l0.length c0) := by rw [ha]; exact (putSel_off rfl).trans rfl
                        have e94 : a.tmps[94]? = some (v474) := by rw [ha]; exact putSel_on (e := (9, 94, v474)) 4 rfl rfl (hon 9 (by kernel_rfl)) rfl
                        replace ha := Aside0.mk ha
                        have HO_11 := Aside0.mk Q_HO_11
                        have BK466 := Aside0.mk Q_BK466
                        have HB := Aside0.mk Q_HB
                        have HO475 := Aside0.mk (Q_HO475 (hon 9 (by kernel_rfl)))
                        obtain ⟨Ao57, co57, eo57⟩ := Kd.R_slice HO475.out
                        (first | subst eo57 | (injection eo57 with f1_ f2_ f3_; have f4_ := f1_.symm; have f5_ := f3_.symm; clear f1_ f2_ f3_; subst f4_; subst f5_))
                        refine goes_ Tryz.func28 (by kernel_rfl) rfl #[.slice A0 l0.length c0, .slice Ao57 y473.length co57] (by rfl) rfl rfl (by first | (simp only [List.map_toArray, List.map_cons, List.map_nil, Act.eval, Array.getD_eq_getD_getElem?, Option.getD_some, e92, e94]; done) | (simp only [List.map_toArray, List.map_cons, List.map_nil, Act.eval, Array.getD_eq_getD_getElem?, Option.getD_some, e92, e94]; rfl)) ?_
                        with_reducible refine (attr_Fits.calls kj31 _ _ l0 _ _ y473 t476 _ ?side1 ?side2 ?side3 ?side4 A45.out).mono ?_
                        (case side1 => repeat (first | exact (Kd.C_below HR0.out HB.out) | (with_reducible refine Kd.C_alloc ?_ _) | (with_reducible refine Kd.C_drewN ?_ _) | (with_reducible refine Kd.C_drew ?_)))
                        (case side2 => exact HC0.out)
                        (case side3 => repeat (first | exact (Kd.R_reads' HO475.out).2.2 | (with_reducible refine Kd.C_alloc ?_ _) | (with_reducible refine Kd.C_drewN ?_ _) | (with_reducible refine Kd.C_drew ?_)))
                        (case side4 => exact (Kd.R_reads' HO475.out).2.1)
                        rintro e w58 ⟨rfl, hb⟩
                        refine ⟨_, rfl, ?_⟩
                        have n0_ := Aside0.mk (Kd.R_below (by (with_reducible repeat (first | apply Kd.R_alloc | apply Kd.R_drewN | apply Kd.R_drew)); exact HO_11.out) hb)
                        have n1_ := Aside0.mk (Kd.R_below (by (with_reducible repeat (first | apply Kd.R_alloc | apply Kd.R_drewN | apply Kd.R_drew)); exact HO475.out) hb)
                        have n2_ := Aside0.mk (blk_below (g := gb466) (o := .cells #[.int .i64 (rd y459 ((rd_T54 l1 x12_3).f0)), .string ((rd_T54 l1 x12_3).f1), .string ((rd_T54 l1 x12_3).f2)] 54 (0, 0)) (by (with_reducible repeat (first | refine blk_drewN ?_ _ | refine blk_drew ?_ | refine blk_alloc ?_ _)); exact BK466.out) hb)
                        have n3_ := Aside0.mk (below_step (by repeat (first | (with_reducible first | exact HB.out | apply below_alloc | apply pw_below_drewN | apply below_drew1 | refine below_set ?_ GE466.out) | exact HB.out)) hb)
                        clear HO_11
                        clear HO475
                        clear BK466
                        clear HB
                        have HO_11 := n0_
                        have HO475 := n1_
                        have BK466 := n2_
                        have HB := n3_
                        clear n0_ n1_ n2_ n3_
                        (try clear hb)
                        (try clear hb2)
                        (try clear hk)
                        (try clear hi)
                        refine hK.out _ _ ⟨.slice Ao57 y473.length co57, (by rw [ha.out]; exact putSel_upk 5 hb_ rfl rfl rfl), (by (with_reducible repeat (first | apply Kd.R_alloc | apply Kd.R_drewN | apply Kd.R_drew)); exact HO_11.out), (by (with_reducible repeat (first | refine blk_drewN ?_ _ | refine blk_drew ?_ | refine blk_alloc ?_ _)); exact BK466.out), (by repeat (first | (with_reducible first | exact HB.out | apply below_alloc | apply pw_below_drewN | apply below_drew1 | refine below_set ?_ GE466.out) | exact HB.out)), fun _ => (by (with_reducible repeat (first | apply Kd.R_alloc | apply Kd.R_drewN | apply Kd.R_drew)); exact HO475.out)⟩
                       refine steps_cons ?_ ?_
                       ·
                        rintro b a w' ⟨v474, ha, Q_HO_11, Q_BK466, Q_HB, Q_HO475⟩ hb_ hon hoff
                        refine ⟨_, rfl, fun K hK => ?_⟩
                        have e91 : a.tmps[91]? = some (.bool t472) := by rw [ha]; exact putSel_on (e := (6, 91, .bool t472)) 2 rfl rfl (hon 6 (by kernel_rfl)) rfl
                        have e95 : a.tmps[95]? = some (.bool t476) := by rw [ha]; exact putSel_on (e := (10, 95, .bool t476)) 5 rfl rfl (hon 10 (by kernel_rfl)) rfl
                        replace ha := Aside0.mk ha
                        have HO_11 := Aside0.mk Q_HO_11
                        have BK466 := Aside0.mk Q_BK466
                        have HB := Aside0.mk Q_HB
                        have HO475 := Aside0.mk (Q_HO475 (hon 9 (by kernel_rfl)))
                        refine value_ (w1 := w') (v := .bool (t472 == t476)) (by rfl) rfl ?_ ?_
                        ·
                         go_simp
                         (try simp only [i64_w])
                         try rfl
                        refine hK.out _ _ ⟨v474, (by rw [ha.out]; exact putSel_upk 6 hb_ rfl rfl rfl), Q_HO_11, Q_BK466, Q_HB, Q_HO475⟩
                       exact steps_nil
                      rintro b a w58 hall ⟨v474, ha, Q_HO_11, Q_BK466, Q_HB, Q_HO475⟩
                      clear BK466 HB HO_11
                      have hb4_ := hall 4 (by kernel_rfl)
                      have hb5_ := hall 5 (by kernel_rfl)
                      have hb6_ := hall 6 (by kernel_rfl)
                      have hb8_ := hall 8 (by kernel_rfl)
                      have hb9_ := hall 9 (by kernel_rfl)
                      have hb10_ := hall 10 (by kernel_rfl)
                      have hb11_ := hall 11 (by kernel_rfl)
                      subst ha
                      simp only [putSel, hb4_, hb5_, hb6_, hb8_, hb9_, hb10_, hb11_, if_true, Act.put, List.setIfInBounds_toArray, List.set_cons_zero, List.set_cons_succ]
                      have HO_11 := Aside0.mk Q_HO_11
                      clear Q_HO_11
                      have BK466 := Aside0.mk Q_BK466
                      clear Q_BK466
                      have HB := Aside0.mk Q_HB
                      clear Q_HB
                      have HO475 := Aside0.mk (Q_HO475 hb9_)
                      clear Q_HO475
                      clear hall hb4_ hb5_ hb6_ hb8_ hb9_ hb10_ hb11_
                      (first | rw [c46b0] | skip)
                      try go_wp2
                      go_ret
                      exact ⟨by first | rfl | (simp [errW_none, errW_some] <;> rfl) | (simp [*, errW_none, errW_some] <;> rfl), by repeat (first | (with_reducible first | exact HB.out | apply below_alloc | apply pw_below_drewN | apply below_drew1 | refine below_set ?_ GE466.out) | exact HB.out)⟩
                     ·
                      rw [if_neg c46] at H
                      have c46b0 : (t472 == t476) = false := by simpa using c46
                      (try (have c46b1 : decide (t472 = t476) = false := by simpa using c46))
                      (try (have c46b2 : (t472 == t476) = false := by simpa using c46))
                      (try (have c46b3 : ¬ (t472 = t476) := by simpa using c46))
                      clear c46
                      have H' := Aside0.mk H
                      clear H
                      have p465 : 0 ≤ (x12_3 : Int) := of_decide_eq_true (by first | (with_reducible assumption) | assumption)
                      have q465 : x12_3 < (l1.length : Int) := of_decide_eq_true (by first | (with_reducible assumption) | assumption)
                      obtain ⟨ad465, e465, hx465_0, hx465_1, hx465_2⟩ := at_T54 HR1.out x12_3 p465 q465
                      cases e465
                      replace hx465_0 := (HB.out.cell (World.block_lt_of_cell? w _ hx465_0)).trans hx465_0
                      replace hx465_1 := (HB.out.cell (World.block_lt_of_cell? w _ hx465_1)).trans hx465_1
                      replace hx465_2 := (HB.out.cell (World.block_lt_of_cell? w _ hx465_2)).trans hx465_2
                      replace p465 := eq_true p465
                      replace q465 := eq_true q465
                      try go_wp2_with (first | ((with_reducible refine gate_dst (N := 13) rfl ?_); refine box_event ?hg (N := 13) ?hd (cs := #[.int .i64 0, .string (⟨#[]⟩ : ByteArray), .string (⟨#[]⟩ : ByteArray)]) (t := 54) ?hr ?_; (case hd => rfl); (case hg => rfl); (case hr => first | (go_simp; done) | (go_simp; rfl)); intro gb466 hg w59 hbox hb; have n0_ := Aside0.mk (Kd.R_below (by (with_reducible repeat (first | apply Kd.R_alloc | apply Kd.R_drewN | apply Kd.R_drew)); exact HO_11.out) hb); have n1_ := Aside0.mk (below_step (by repeat (first | (with_reducible first | exact HB.out | apply below_alloc | apply pw_below_drewN | apply below_drew1) | exact HB.out)) hb); have n2_ := Aside0.mk (hbox); have n3_ := Aside0.mk ((by rw [hg]; exact (below_size (by repeat (first | (with_reducible first | exact HB.out | apply below_alloc | apply pw_below_drewN | apply below_drew1) | exact HB.out))) : w.heap.size ≤ gb466)); have n4_ := Aside0.mk ((by rw [hg]; exact (below_size (by repeat (first | (with_reducible first | exact HB.out | apply below_alloc | apply pw_below_drewN | apply below_drew1) | exact HB.out))) : w.heap.size ≤ gb466)); clear HO_11; clear HB; have HO_11 := n0_; have HB := n1_; have BK466 := n2_; have GW466 := n3_; have GE466 := n4_; clear n0_ n1_ n2_ n3_ n4_; clear hb hbox hg; have hcz60_0 : w59.cell? ⟨gb466, 0, none⟩ = some (.int .i64 0) := (blk_cell BK466.out 0).trans rfl; have hcz60_1 : w59.cell? ⟨gb466, 1, none⟩ = some (.string (⟨#[]⟩ : ByteArray)) := (blk_cell BK466.out 1).trans rfl; have hcz60_2 : w59.cell? ⟨gb466, 2, none⟩ = some (.string (⟨#[]⟩ : ByteArray)) := (blk_cell BK466.out 2).trans rfl; have hfz60_0 := blk_frozen BK466.out 0; have hfz60_1 := blk_frozen BK466.out 1; have hfz60_2 := blk_frozen BK466.out 2; obtain ⟨Ao61, co61, eo61⟩ := Kd.R_slice HO_11.out; subst eo61; have p467 : 0 ≤ (((rd_T54 l1 x12_3).f0) : Int) := of_decide_eq_true (by first | (with_reducible assumption) | assumption); have q467 : ((rd_T54 l1 x12_3).f0) < (y459.length : Int) := of_decide_eq_true (by first | (with_reducible assumption) | assumption); obtain ⟨ad467, e467, hx467_0⟩ := Kd.at_int (Kd.R_reads' HO_11.out).2.2 ((rd_T54 l1 x12_3).f0) p467 q467; cases e467; have hn467_0 : ad467.block ≠ gb466 := Kd.own_blk (Kd.R_ne HO_11.out BK466.out (by decide)); have hn467_1 : ad467.block ≠ gb466 := Kd.own_blk (Kd.R_ne HO_11.out BK466.out (by decide)); have hn467_2 : ad467.block ≠ gb466 := Kd.own_blk (Kd.R_ne HO_11.out BK466.out (by decide)); replace hx467_0 := (cell_far (p := ⟨gb466, 0, none⟩) (by first | (rw [add_block]; exact hn467_0) | (show (Addr.add _ _).block ≠ _; rw [add_block]; exact hn467_0) | exact hn467_0) (.int .i64 ((rd_T54 l1 x12_3).f0))).trans hx467_0; replace hx467_0 := (cell_far (p := ⟨gb466, 1, none⟩) (by first | (rw [add_block]; exact hn467_1) | (show (Addr.add _ _).block ≠ _; rw [add_block]; exact hn467_1) | exact hn467_1) (.string ((rd_T54 l1 x12_3).f1))).trans hx467_0; replace hx467_0 := (cell_far (p := ⟨gb466, 2, none⟩) (by first | (rw [add_block]; exact hn467_2) | (show (Addr.add _ _).block ≠ _; rw [add_block]; exact hn467_2) | exact hn467_2) (.string ((rd_T54 l1 x12_3).f2))).trans hx467_0; clear hn467_0; clear hn467_1; clear hn467_2; replace p467 := eq_true p467; replace q467 := eq_true q467))
                      have n0_ : Aside0 (Kd.R (Kd.int .i64) 3 ((((w59.setCell ⟨gb466, 0, none⟩ (.int .i64 ((rd_T54 l1 x12_3).f0))).setCell ⟨gb466, 1, none⟩ (.string ((rd_T54 l1 x12_3).f1))).setCell ⟨gb466, 2, none⟩ (.string ((rd_T54 l1 x12_3).f2))).setCell ⟨gb466, 0, none⟩ (.int .i64 (rd y459 ((rd_T54 l1 x12_3).f0)))) w.heap.size (fun _ => True) (.slice (some ad467) y459.length co61) y459) := ⟨by (with_reducible repeat (first | apply Kd.R_alloc | apply Kd.R_drewN | apply Kd.R_drew)); exact Kd.R_mono (Kd.R_far (p := ⟨gb466, 0, none⟩) (Kd.R_far (p := ⟨gb466, 2, none⟩) (Kd.R_far (p := ⟨gb466, 1, none⟩) (Kd.R_far (p := ⟨gb466, 0, none⟩) (Kd.R_types HO_11.out BK466.out (by decide)) (fun _ hk => hk.2) (.int .i64 ((rd_T54 l1 x12_3).f0))) (fun _ hk => hk.2) (.string ((rd_T54 l1 x12_3).f1))) (fun _ hk => hk.2) (.string ((rd_T54 l1 x12_3).f2))) (fun _ hk => hk.2) (.int .i64 (rd y459 ((rd_T54 l1 x12_3).f0)))) (fun _ hk => trivial)⟩
                      have n1_ : Aside0 (((((w59.setCell ⟨gb466, 0, none⟩ (.int .i64 ((rd_T54 l1 x12_3).f0))).setCell ⟨gb466, 1, none⟩ (.string ((rd_T54 l1 x12_3).f1))).setCell ⟨gb466, 2, none⟩ (.string ((rd_T54 l1 x12_3).f2))).setCell ⟨gb466, 0, none⟩ (.int .i64 (rd y459 ((rd_T54 l1 x12_3).f0)))).heap[gb466]? = some (.cells #[.int .i64 (rd y459 ((rd_T54 l1 x12_3).f0)), .string ((rd_T54 l1 x12_3).f1), .string ((rd_T54 l1 x12_3).f2)] 54 (0, 0))) := ⟨by (with_reducible repeat (first | refine blk_drewN ?_ _ | refine blk_drew ?_ | refine blk_alloc ?_ _)); refine blk_put (cs := #[.int .i64 ((rd_T54 l1 x12_3).f0), .string ((rd_T54 l1 x12_3).f1), .string ((rd_T54 l1 x12_3).f2)]) ?_ 0 _ rfl; (with_reducible repeat (first | refine blk_drewN ?_ _ | refine blk_drew ?_ | refine blk_alloc ?_ _)); refine blk_put (cs := #[.int .i64 ((rd_T54 l1 x12_3).f0), .string ((rd_T54 l1 x12_3).f1), .string (⟨#[]⟩ : ByteArray)]) ?_ 2 _ rfl; (with_reducible repeat (first | refine blk_drewN ?_ _ | refine blk_drew ?_ | refine blk_alloc ?_ _)); refine blk_put (cs := #[.int .i64 ((rd_T54 l1 x12_3).f0), .string (⟨#[]⟩ : ByteArray), .string (⟨#[]⟩ : ByteArray)]) ?_ 1 _ rfl; (with_reducible repeat (first | refine blk_drewN ?_ _ | refine blk_drew ?_ | refine blk_alloc ?_ _)); refine blk_put (cs := #[.int .i64 0, .string (⟨#[]⟩ : ByteArray), .string (⟨#[]⟩ : ByteArray)]) ?_ 0 _ rfl; (with_reducible repeat (first | refine blk_drewN ?_ _ | refine blk_drew ?_ | refine blk_alloc ?_ _)); exact BK466.out⟩
                      have n2_ : Aside0 (Below w.heap.size w ((((w59.setCell ⟨gb466, 0, none⟩ (.int .i64 ((rd_T54 l1 x12_3).f0))).setCell ⟨gb466, 1, none⟩ (.string ((rd_T54 l1 x12_3).f1))).setCell ⟨gb466, 2, none⟩ (.string ((rd_T54 l1 x12_3).f2))).setCell ⟨gb466, 0, none⟩ (.int .i64 (rd y459 ((rd_T54 l1 x12_3).f0))))) := ⟨by repeat (first | (with_reducible first | exact HB.out | apply below_alloc | apply pw_below_drewN | apply below_drew1 | refine below_set ?_ GE466.out) | exact HB.out)⟩
                      (try clear HO_11)
                      (try clear BK466)
                      (try clear HB)
                      generalize ((((w59.setCell ⟨gb466, 0, none⟩ (.int .i64 ((rd_T54 l1 x12_3).f0))).setCell ⟨gb466, 1, none⟩ (.string ((rd_T54 l1 x12_3).f1))).setCell ⟨gb466, 2, none⟩ (.string ((rd_T54 l1 x12_3).f2))).setCell ⟨gb466, 0, none⟩ (.int .i64 (rd y459 ((rd_T54 l1 x12_3).f0)))) = w62 at n0_ n1_ n2_ ⊢
                      have HO_11 := n0_
                      have BK466 := n1_
                      have HB := n2_
                      clear n0_ n1_ n2_
                      have n0_ := Aside0.mk (Kd.R_drew HO_11.out)
                      have n1_ := Aside0.mk (blk_drew BK466.out)
                      have n2_ := Aside0.mk (below_drew1 HB.out)
                      clear HO_11
                      clear BK466
                      clear HB
                      have HO_11 := n0_
                      have BK466 := n1_
                      have HB := n2_
                      clear n0_ n1_ n2_
                      have q64 : ((wrap64 (x12_3 + 1)) : Int) ≤ ((l1.length : Int) : Int) := of_decide_eq_true (by first | (with_reducible assumption) | assumption)
                      obtain ⟨i064, hi064, _, hsz64, _⟩ := info_parts info54
                      have hroom64 : l1.length ≤ c1 := HC1.out
                      have hC64 : Kd.C k54 _ (some ad465) l1.length l1 := HR1.out
                      have ql64 : (x12_3 : Int) ≤ ((wrap64 (x12_3 + 1)) : Int) := of_decide_eq_true (by first | (with_reducible assumption) | assumption)
                      have q064 : (0 : Int) ≤ (x12_3 : Int) := of_decide_eq_true (by first | (with_reducible assumption) | assumption)
                      have hcut64 := cut_mid (P := Tryz.prog) 48 54 .i64 .i64 Tryz.underlying48 hi064 3 hsz64 (some ad465) l1.length c1 x12_3 (wrap64 (x12_3 + 1)) q064 ql64 q64 hroom64
                      have hr64 := Kd.C_mid (lo := (x12_3 : Int).toNat) (hi := ((wrap64 (x12_3 + 1)) : Int).toNat) (c := c1) hC64 (by omega) (by omega) hroom64
                      obtain ⟨A64, hA64⟩ : ∃ A1, A1 = (if c1 = (x12_3 : Int).toNat then (some ad465) else ((some ad465) : Option Addr).map (·.add ((x12_3 : Int).toNat * 3))) := ⟨_, rfl⟩
                      obtain ⟨c64, hc64⟩ : ∃ cZ_, cZ_ = c1 - (x12_3 : Int).toNat := ⟨_, rfl⟩
                      have hy64 : y468.length = ((wrap64 (x12_3 + 1)) : Int).toNat - (x12_3 : Int).toNat := (by rw [Ny468.out, List.length_drop, List.length_take] <;> omega)
                      rw [show ((l1).take ((wrap64 (x12_3 + 1)) : Int).toNat).drop (x12_3 : Int).toNat = y468 from Ny468.out.symm] at hr64
                      replace hr64 : Kd.C k54 _ A64 y468.length y468 := (by rw [hA64]; exact hr64)
                      rw [← hy64, ← hA64, ← hc64] at hcut64
                      have HR471 := Aside0.mk hr64
                      have HC471 := Aside0.mk (show y468.length ≤ c64 from by rw [hy64, hc64]; exact Nat.sub_le_sub_right (Nat.le_trans (by omega) hroom64) _)
                      clear hr64 hC64 hroom64 hi064 hsz64 hc64
                      have KY64 := Aside0.mk hy64
                      have KA64 := Aside0.mk hA64
                      clear hy64 hA64
                      replace q64 := eq_true q64
                      refine start_ (n := 12) (S := fun w' => True) (ds := []) #[false, false, false, false, false, false, false, false, false, false, false, false] (by kernel_rfl) rfl rfl trivial (fun hHeld => ?_); refine with_tabW belfrylaw04_AttrFits.tab15 belfrylaw04_AttrFits.bits15 (fun HT_ HW_ => ?_)
                      generalize w62.drew = w63 at HO_11 BK466 HB HR471 hHeld ⊢
                      refine pure_ (i := 0) (N := some 85) (v := ?_) (a' := ?_) #[true, false, false, false, false, false, false, false, false, false, false, false] rfl rfl (any_of HT_.out (by kernel_rfl)) (fun _ _ _ h => h) (Or.inl ⟨by rfl, ?_⟩) ?_ ?_
                      rotate_left
                      ·
                       intro w'
                       go_simp
                       with_reducible rfl
                      rotate_left
                      ·
                       simp only [Act.put, List.setIfInBounds_toArray, List.set_cons_zero, List.set_cons_succ, i64_w, i32_w]
                       rfl
                      refine pure_ (i := 1) (N := some 86) (v := ?_) (a' := ?_) #[true, true, false, false, false, false, false, false, false, false, false, false] rfl rfl (any_of HT_.out (by kernel_rfl)) (fun _ _ _ h => h) (Or.inl ⟨by rfl, ?_⟩) ?_ ?_
                      rotate_left
                      ·
                       intro w'
                       go_simp
                       with_reducible rfl
                      rotate_left
                      ·
                       simp only [Act.put, List.setIfInBounds_toArray, List.set_cons_zero, List.set_cons_succ, i64_w, i32_w]
                       rfl
                      refine pure_ (i := 2) (N := some 87) (v := ?_) (a' := ?_) #[true, true, true, false, false, false, false, false, false, false, false, false] rfl rfl (any_of HT_.out (by kernel_rfl)) (fun _ _ _ h => h) (Or.inl ⟨by rfl, ?_⟩) ?_ ?_
                      rotate_left
                      ·
                       intro w'
                       go_simp
                       with_reducible rfl
                      rotate_left
                      ·
                       simp only [Act.put, List.setIfInBounds_toArray, List.set_cons_zero, List.set_cons_succ, i64_w, i32_w]
                       rfl
                      refine pure_ (i := 3) (N := some 88) (v := ?_) (a' := ?_) #[true, true, true, true, false, false, false, false, false, false, false, false] rfl rfl (any_of HT_.out (by kernel_rfl)) (fun _ _ _ h => h) (Or.inl ⟨by rfl, ?_⟩) ?_ ?_
                      rotate_left
                      ·
                       intro w'
                       go_simp
                       with_reducible rfl
                      rotate_left
                      ·
                       simp only [Act.put, List.setIfInBounds_toArray, List.set_cons_zero, List.set_cons_succ, i64_w, i32_w]
                       rfl
                      refine pure_ (i := 7) (N := some 92) (v := ?_) (a' := ?_) #[true, true, true, true, false, false, false, true, false, false, false, false] rfl rfl (any_of HT_.out (by kernel_rfl)) (fun _ _ _ h => h) (Or.inl ⟨by rfl, ?_⟩) ?_ ?_
                      rotate_left
                      ·
                       intro w'
                       go_simp
                       with_reducible rfl
                      rotate_left
                      ·
                       simp only [Act.put, List.setIfInBounds_toArray, List.set_cons_zero, List.set_cons_succ, i64_w, i32_w]
                       rfl
                      refine inv_at [4, 5, 6, 8, 9, 10, 11] (fun a0_ b a w' => ∃ (v474 : Value), a = putSel a0_ b [(4, 89, .int .i64 (wrap64 (x12_3 + 1))), (5, 90, .slice A64 y468.length c64), (6, 91, .bool t472), (8, 93, .agg #[.int .i64 (rd y459 ((rd_T54 l1 x12_3).f0)), .string ((rd_T54 l1 x12_3).f1), .string ((rd_T54 l1 x12_3).f2)]), (9, 94, v474), (10, 95, .bool t476), (11, 96, .bool (t472 == t476))] ∧ (Kd.R (Kd.int .i64) 3 w' w.heap.size (fun _ => True) (.slice (some ad467) y459.length co61) y459) ∧ (w'.heap[gb466]? = some (.cells #[.int .i64 (rd y459 ((rd_T54 l1 x12_3).f0)), .string ((rd_T54 l1 x12_3).f1), .string ((rd_T54 l1 x12_3).f2)] 54 (0, 0))) ∧ (Below w.heap.size w w') ∧ (b 9 = true → Kd.R k54 54 w' w.heap.size (fun k_ => k_ ≠ gb466) v474 y473)) HT_.out HW_.out (by kernel_rfl) (by kernel_rfl) ?_ ?_ ?_
                      ·
                       exact ⟨.bool false, by simp only [putSel, Bool.false_eq_true, if_false], HO_11.out, BK466.out, HB.out, fun h_ => absurd h_ (by decide)⟩
                      ·
                       skip
                       clear BK466 HB HO_11
                       refine steps_cons ?_ ?_
                       ·
                        rintro b a w' ⟨v474, ha, Q_HO_11, Q_BK466, Q_HB, Q_HO475⟩ hb_ hon hoff
                        refine ⟨_, rfl, fun K hK => ?_⟩
                        have e88 : a.tmps[88]? = some (.int .i64 x12_3) := by rw [ha]; exact (putSel_off rfl).trans rfl
                        replace ha := Aside0.mk ha
                        have HO_11 := Aside0.mk Q_HO_11
                        have BK466 := Aside0.mk Q_BK466
                        have HB := Aside0.mk Q_HB
                        refine value_ (w1 := w') (v := .int .i64 (wrap64 (x12_3 + 1))) (by rfl) rfl ?_ ?_
                        ·
                         go_simp
                         (try simp only [i64_w])
                         try rfl
                        refine hK.out _ _ ⟨v474, (by rw [ha.out]; exact putSel_upk 0 hb_ rfl rfl rfl), Q_HO_11, Q_BK466, Q_HB, Q_HO475⟩
                       refine steps_cons ?_ ?_
                       ·
                        rintro b a w' ⟨v474, ha, Q_HO_11, Q_BK466, Q_HB, Q_HO475⟩ hb_ hon hoff
                        refine ⟨_, rfl, fun K hK => ?_⟩
                        have e86 : a.tmps[86]? = some (.slice (some ad465) l1.length c1) := by rw [ha]; exact (putSel_off rfl).trans rfl
                        have e87 : a.tmps[87]? = some (.int .i64 x12_3) := by rw [ha]; exact (putSel_off rfl).trans rfl
                        have e89 : a.tmps[89]? = some (.int .i64 (wrap64 (x12_3 + 1))) := by rw [ha]; exact putSel_on (e := (4, 89, .int .i64 (wrap64 (x12_3 + 1)))) 0 rfl rfl (hon 4 (by kernel_rfl)) rfl
                        replace ha := Aside0.mk ha
                        have HO_11 := Aside0.mk Q_HO_11
                        have BK466 := Aside0.mk Q_BK466
                        have HB := Aside0.mk Q_HB
                        refine value_ (w1 := w') (v := .slice A64 y468.length c64) (by rfl) rfl ?_ ?_
                        ·
                         go_simp
                         (try simp only [i64_w])
                         try rfl
                        refine hK.out _ _ ⟨v474, (by rw [ha.out]; exact putSel_upk 1 hb_ rfl rfl rfl), Q_HO_11, Q_BK466, Q_HB, Q_HO475⟩
                       refine steps_cons ?_ ?_
                       ·
                        rintro b a w' ⟨v474, ha, Q_HO_11, Q_BK466, Q_HB, Q_HO475⟩ hb_ hon hoff
                        refine ⟨_, rfl, fun K hK => ?_⟩
                        have e85 : a.tmps[85]? = some (.slice A0 l0.length c0) := by rw [ha]; exact (putSel_off rfl).trans rfl
                        have e90 : a.tmps[90]? = some (.slice A64 y468.length c64) := by rw [ha]; exact putSel_on (e := (5, 90, .slice A64 y468.length c64)) 1 rfl rfl (hon 5 (by kernel_rfl)) rfl
                        replace ha := Aside0.mk ha
                        have HO_11 := Aside0.mk Q_HO_11
                        have BK466 := Aside0.mk Q_BK466
                        have HB := Aside0.mk Q_HB
                        refine goes_ Tryz.func28 (by kernel_rfl) rfl #[.slice A0 l0.length c0, .slice A64 y468.length c64] (by rfl) rfl rfl (by first | (simp only [List.map_toArray, List.map_cons, List.map_nil, Act.eval, Array.getD_eq_getD_getElem?, Option.getD_some, e85, e90]; done) | (simp only [List.map_toArray, List.map_cons, List.map_nil, Act.eval, Array.getD_eq_getD_getElem?, Option.getD_some, e85, e90]; rfl)) ?_
                        with_reducible refine (attr_Fits.calls kj31 _ _ l0 _ _ y468 t472 _ ?side1 ?side2 ?side3 ?side4 A44.out).mono ?_
                        (case side1 => repeat (first | exact (Kd.C_below HR0.out HB.out) | (with_reducible refine Kd.C_alloc ?_ _) | (with_reducible refine Kd.C_drewN ?_ _) | (with_reducible refine Kd.C_drew ?_)))
                        (case side2 => exact HC0.out)
                        (case side3 => repeat (first | exact (Kd.C_below HR471.out HB.out) | (with_reducible refine Kd.C_alloc ?_ _) | (with_reducible refine Kd.C_drewN ?_ _) | (with_reducible refine Kd.C_drew ?_)))
                        (case side4 => exact HC471.out)
                        rintro e w65 ⟨rfl, hb⟩
                        refine ⟨_, rfl, ?_⟩
                        have n0_ := Aside0.mk (Kd.R_below (by (with_reducible repeat (first | apply Kd.R_alloc | apply Kd.R_drewN | apply Kd.R_drew)); exact HO_11.out) hb)
                        have n1_ := Aside0.mk (blk_below (g := gb466) (o := .cells #[.int .i64 (rd y459 ((rd_T54 l1 x12_3).f0)), .string ((rd_T54 l1 x12_3).f1), .string ((rd_T54 l1 x12_3).f2)] 54 (0, 0)) (by (with_reducible repeat (first | refine blk_drewN ?_ _ | refine blk_drew ?_ | refine blk_alloc ?_ _)); exact BK466.out) hb)
                        have n2_ := Aside0.mk (below_step (by repeat (first | (with_reducible first | exact HB.out | apply below_alloc | apply pw_below_drewN | apply below_drew1 | refine below_set ?_ GE466.out) | exact HB.out)) hb)
                        have z_HO475 := fun (h0_ : b 9 = true) => (show Kd.R k54 54 w65 w.heap.size (fun k_ => k_ ≠ gb466) v474 y473 from by first | exact (Kd.R_below (by (with_reducible repeat (first | apply Kd.R_alloc | apply Kd.R_drewN | apply Kd.R_drew)); exact (Q_HO475 h0_)) hb) | exact Kd.R_mono (Kd.R_below (by (with_reducible repeat (first | apply Kd.R_alloc | apply Kd.R_drewN | apply Kd.R_drew)); exact (Q_HO475 h0_)) hb) (fun _ h_ => by first | trivial | exact h_ | exact h_.1))
                        clear HO_11
                        clear BK466
                        clear HB
                        have HO_11 := n0_
                        have BK466 := n1_
                        have HB := n2_
                        clear n0_ n1_ n2_
                        (try clear hb)
                        (try clear hb2)
                        (try clear hk)
                        (try clear hi)
                        refine hK.out _ _ ⟨v474, (by rw [ha.out]; exact putSel_upk 2 hb_ rfl rfl rfl), (by (with_reducible repeat (first | apply Kd.R_alloc | apply Kd.R_drewN | apply Kd.R_drew)); exact HO_11.out), (by (with_reducible repeat (first | refine blk_drewN ?_ _ | refine blk_drew ?_ | refine blk_alloc ?_ _)); exact BK466.out), (by repeat (first | (with_reducible first | exact HB.out | apply below_alloc | apply pw_below_drewN | apply below_drew1 | refine below_set ?_ GE466.out) | exact HB.out)), z_HO475⟩
                       refine steps_cons ?_ ?_
                       ·
                        rintro b a w' ⟨v474, ha, Q_HO_11, Q_BK466, Q_HB, Q_HO475⟩ hb_ hon hoff
                        refine ⟨_, rfl, fun K hK => ?_⟩
                        have e13 : a.tmps[13]? = some (.pointer (some ⟨gb466, 0, none⟩)) := by rw [ha]; exact (putSel_off rfl).trans rfl
                        replace ha := Aside0.mk ha
                        have HO_11 := Aside0.mk Q_HO_11
                        have BK466 := Aside0.mk Q_BK466
                        have HB := Aside0.mk Q_HB
                        have hc0_ : w'.cell? ⟨gb466, 0, none⟩ = some (.int .i64 (rd y459 ((rd_T54 l1 x12_3).f0))) := (blk_cell BK466.out 0).trans rfl
                        have hc1_ : w'.cell? ⟨gb466, 1, none⟩ = some (.string ((rd_T54 l1 x12_3).f1)) := (blk_cell BK466.out 1).trans rfl
                        have hc2_ : w'.cell? ⟨gb466, 2, none⟩ = some (.string ((rd_T54 l1 x12_3).f2)) := (blk_cell BK466.out 2).trans rfl
                        refine value_ (w1 := w') (v := .agg #[.int .i64 (rd y459 ((rd_T54 l1 x12_3).f0)), .string ((rd_T54 l1 x12_3).f1), .string ((rd_T54 l1 x12_3).f2)]) (by rfl) rfl ?_ ?_
                        ·
                         go_simp
                         (try simp only [i64_w])
                         try rfl
                        refine hK.out _ _ ⟨v474, (by rw [ha.out]; exact putSel_upk 3 hb_ rfl rfl rfl), Q_HO_11, Q_BK466, Q_HB, fun h0_ => absurd ((hoff 9 (by kernel_rfl)).symm.trans h0_) (by decide)⟩
                       refine steps_cons ?_ ?_
                       ·
                        rintro b a w' ⟨v474, ha, Q_HO_11, Q_BK466, Q_HB, Q_HO475⟩ hb_ hon hoff
                        refine ⟨_, rfl, fun K hK => ?_⟩
                        have e93 : a.tmps[93]? = some (.agg #[.int .i64 (rd y459 ((rd_T54 l1 x12_3).f0)), .string ((rd_T54 l1 x12_3).f1), .string ((rd_T54 l1 x12_3).f2)]) := by rw [ha]; exact putSel_on (e := (8, 93, .agg #[.int .i64 (rd y459 ((rd_T54 l1 x12_3).f0)), .string ((rd_T54 l1 x12_3).f1), .string ((rd_T54 l1 x12_3).f2)])) 3 rfl rfl (hon 8 (by kernel_rfl)) rfl
                        replace ha := Aside0.mk ha
                        have HO_11 := Aside0.mk Q_HO_11
                        have BK466 := Aside0.mk Q_BK466
                        have HB := Aside0.mk Q_HB
                        refine Kd.R_lit_step k54 _ 54 ?hg (N := 94) ?hd (xs := ([(⟨rd y459 ((rd_T54 l1 x12_3).f0), (rd_T54 l1 x12_3).f1, (rd_T54 l1 x12_3).f2⟩ : S54)] : List (S54))) (inner := [.int .i64 (rd y459 ((rd_T54 l1 x12_3).f0)), .string ((rd_T54 l1 x12_3).f1), .string ((rd_T54 l1 x12_3).f2)]) (ok := fun _ => True) (okp := fun _ => True) ?hr ?hp (fun _ hk => hk) trivial (Below.refl _ _) (Nat.le_refl _) (by simp) ?_; (case hd => rfl); (case hg => rfl); (case hr => first | (go_simp; done) | (go_simp; rfl)); (case hp => exact (Reps.c3 (show Kd.M k54 _ _ _ (⟨rd y459 ((rd_T54 l1 x12_3).f0), (rd_T54 l1 x12_3).f1, (rd_T54 l1 x12_3).f2⟩ : S54) [.int .i64 (rd y459 ((rd_T54 l1 x12_3).f0)), .string ((rd_T54 l1 x12_3).f1), .string ((rd_T54 l1 x12_3).f2)] from (k54_mkM _ _ _ (⟨rd y459 ((rd_T54 l1 x12_3).f0), (rd_T54 l1 x12_3).f1, (rd_T54 l1 x12_3).f2⟩ : S54) )) (Reps.none _ _)))
                        intro v474 w65 ho66 hb hg_ hnew_
                        clear hg_ hnew_
                        (first | rw [← Ny473.out] at ho66 | (simp only [Int.reduceToNat] at ho66; rw [← Ny473.out] at ho66))
                        have n0_ := Aside0.mk (Kd.R_below (by (with_reducible repeat (first | apply Kd.R_alloc | apply Kd.R_drewN | apply Kd.R_drew)); exact HO_11.out) hb)
                        have n1_ := Aside0.mk (Kd.R_lower (Kd.R_newB ho66 (g := gb466) (o := .cells #[.int .i64 (rd y459 ((rd_T54 l1 x12_3).f0)), .string ((rd_T54 l1 x12_3).f1), .string ((rd_T54 l1 x12_3).f2)] 54 (0, 0)) (by (with_reducible repeat (first | refine blk_drewN ?_ _ | refine blk_drew ?_ | refine blk_alloc ?_ _)); exact BK466.out)) (below_size (by repeat (first | (with_reducible first | exact HB.out | apply below_alloc | apply pw_below_drewN | apply below_drew1 | refine below_set ?_ GE466.out) | exact HB.out))))
                        have n2_ := Aside0.mk (blk_below (g := gb466) (o := .cells #[.int .i64 (rd y459 ((rd_T54 l1 x12_3).f0)), .string ((rd_T54 l1 x12_3).f1), .string ((rd_T54 l1 x12_3).f2)] 54 (0, 0)) (by (with_reducible repeat (first | refine blk_drewN ?_ _ | refine blk_drew ?_ | refine blk_alloc ?_ _)); exact BK466.out) hb)
                        have n3_ := Aside0.mk (below_step (by repeat (first | (with_reducible first | exact HB.out | apply below_alloc | apply pw_below_drewN | apply below_drew1 | refine below_set ?_ GE466.out) | exact HB.out)) hb)
                        clear HO_11
                        clear BK466
                        clear HB
                        have HO_11 := n0_
                        have HO475 := n1_
                        have BK466 := n2_
                        have HB := n3_
                        clear n0_ n1_ n2_ n3_
                        clear hb ho66
                        refine hK.out _ _ ⟨v474, (by rw [ha.out]; exact putSel_upk 4 hb_ rfl rfl rfl), (by (with_reducible repeat (first | apply Kd.R_alloc | apply Kd.R_drewN | apply Kd.R_drew)); exact HO_11.out), (by (with_reducible repeat (first | refine blk_drewN ?_ _ | refine blk_drew ?_ | refine blk_alloc ?_ _)); exact BK466.out), (by repeat (first | (with_reducible first | exact HB.out | apply below_alloc | apply pw_below_drewN | apply below_drew1 | refine below_set ?_ GE466.out) | exact HB.out)), fun _ => (by (with_reducible repeat (first | apply Kd.R_alloc | apply Kd.R_drewN | apply Kd.R_drew)); exact Kd.R_mono HO475.out (fun _ hk => hk.2))⟩
                       refine steps_cons ?_ ?_
                       ·
                        rintro b a w' ⟨v474, ha, Q_HO_11, Q_BK466, Q_HB, Q_HO475⟩ hb_ hon hoff
                        refine ⟨_, rfl, fun K hK => ?_⟩
                        have e92 : a.tmps[92]? = some (.slice A0 l0.length c0) := by rw [ha]; exact (putSel_off rfl).trans rfl
                        have e94 : a.tmps[94]? = some (v474) := by rw [ha]; exact putSel_on (e := (9, 94, v474)) 4 rfl rfl (hon 9 (by kernel_rfl)) rfl
                        replace ha := Aside0.mk ha
                        have HO_11 := Aside0.mk Q_HO_11
                        have BK466 := Aside0.mk Q_BK466
                        have HB := Aside0.mk Q_HB
                        have HO475 := Aside0.mk (Q_HO475 (hon 9 (by kernel_rfl)))
                        obtain ⟨Ao69, co69, eo69⟩ := Kd.R_slice HO475.out
                        (first | subst eo69 | (injection eo69 with f1_ f2_ f3_; have f4_ := f1_.symm; have f5_ := f3_.symm; clear f1_ f2_ f3_; subst f4_; subst f5_))
                        refine goes_ Tryz.func28 (by kernel_rfl) rfl #[.slice A0 l0.length c0, .slice Ao69 y473.length co69] (by rfl) rfl rfl (by first | (simp only [List.map_toArray, List.map_cons, List.map_nil, Act.eval, Array.getD_eq_getD_getElem?, Option.getD_some, e92, e94]; done) | (simp only [List.map_toArray, List.map_cons, List.map_nil, Act.eval, Array.getD_eq_getD_getElem?, Option.getD_some, e92, e94]; rfl)) ?_
                        with_reducible refine (attr_Fits.calls kj31 _ _ l0 _ _ y473 t476 _ ?side1 ?side2 ?side3 ?side4 A45.out).mono ?_
                        (case side1 => repeat (first | exact (Kd.C_below HR0.out HB.out) | (with_reducible refine Kd.C_alloc ?_ _) | (with_reducible refine Kd.C_drewN ?_ _) | (with_reducible refine Kd.C_drew ?_)))
                        (case side2 => exact HC0.out)
                        (case side3 => repeat (first | exact (Kd.R_reads' HO475.out).2.2 | (with_reducible refine Kd.C_alloc ?_ _) | (with_reducible refine Kd.C_drewN ?_ _) | (with_reducible refine Kd.C_drew ?_)))
                        (case side4 => exact (Kd.R_reads' HO475.out).2.1)
                        rintro e w70 ⟨rfl, hb⟩
                        refine ⟨_, rfl, ?_⟩
                        have n0_ := Aside0.mk (Kd.R_below (by (with_reducible repeat (first | apply Kd.R_alloc | apply Kd.R_drewN | apply Kd.R_drew)); exact HO_11.out) hb)
                        have n1_ := Aside0.mk (Kd.R_below (by (with_reducible repeat (first | apply Kd.R_alloc | apply Kd.R_drewN | apply Kd.R_drew)); exact HO475.out) hb)
                        have n2_ := Aside0.mk (blk_below (g := gb466) (o := .cells #[.int .i64 (rd y459 ((rd_T54 l1 x12_3).f0)), .string ((rd_T54 l1 x12_3).f1), .string ((rd_T54 l1 x12_3).f2)] 54 (0, 0)) (by (with_reducible repeat (first | refine blk_drewN ?_ _ | refine blk_drew ?_ | refine blk_alloc ?_ _)); exact BK466.out) hb)
                        have n3_ := Aside0.mk (below_step (by repeat (first | (with_reducible first | exact HB.out | apply below_alloc | apply pw_below_drewN | apply below_drew1 | refine below_set ?_ GE466.out) | exact HB.out)) hb)
                        clear HO_11
                        clear HO475
                        clear BK466
                        clear HB
                        have HO_11 := n0_
                        have HO475 := n1_
                        have BK466 := n2_
                        have HB := n3_
                        clear n0_ n1_ n2_ n3_
                        (try clear hb)
                        (try clear hb2)
                        (try clear hk)
                        (try clear hi)
                        refine hK.out _ _ ⟨.slice Ao69 y473.length co69, (by rw [ha.out]; exact putSel_upk 5 hb_ rfl rfl rfl), (by (with_reducible repeat (first | apply Kd.R_alloc | apply Kd.R_drewN | apply Kd.R_drew)); exact HO_11.out), (by (with_reducible repeat (first | refine blk_drewN ?_ _ | refine blk_drew ?_ | refine blk_alloc ?_ _)); exact BK466.out), (by repeat (first | (with_reducible first | exact HB.out | apply below_alloc | apply pw_below_drewN | apply below_drew1 | refine below_set ?_ GE466.out) | exact HB.out)), fun _ => (by (with_reducible repeat (first | apply Kd.R_alloc | apply Kd.R_drewN | apply Kd.R_drew)); exact HO475.out)⟩
                       refine steps_cons ?_ ?_
                       ·
                        rintro b a w' ⟨v474, ha, Q_HO_11, Q_BK466, Q_HB, Q_HO475⟩ hb_ hon hoff
                        refine ⟨_, rfl, fun K hK => ?_⟩
                        have e91 : a.tmps[91]? = some (.bool t472) := by rw [ha]; exact putSel_on (e := (6, 91, .bool t472)) 2 rfl rfl (hon 6 (by kernel_rfl)) rfl
                        have e95 : a.tmps[95]? = some (.bool t476) := by rw [ha]; exact putSel_on (e := (10, 95, .bool t476)) 5 rfl rfl (hon 10 (by kernel_rfl)) rfl
                        replace ha := Aside0.mk ha
                        have HO_11 := Aside0.mk Q_HO_11
                        have BK466 := Aside0.mk Q_BK466
                        have HB := Aside0.mk Q_HB
                        have HO475 := Aside0.mk (Q_HO475 (hon 9 (by kernel_rfl)))
                        refine value_ (w1 := w') (v := .bool (t472 == t476)) (by rfl) rfl ?_ ?_
                        ·
                         go_simp
                         (try simp only [i64_w])
                         try rfl
                        refine hK.out _ _ ⟨v474, (by rw [ha.out]; exact putSel_upk 6 hb_ rfl rfl rfl), Q_HO_11, Q_BK466, Q_HB, Q_HO475⟩
                       exact steps_nil
                      rintro b a w70 hall ⟨v474, ha, Q_HO_11, Q_BK466, Q_HB, Q_HO475⟩
                      clear BK466 HB HO_11
                      have hb4_ := hall 4 (by kernel_rfl)
                      have hb5_ := hall 5 (by kernel_rfl)
                      have hb6_ := hall 6 (by kernel_rfl)
                      have hb8_ := hall 8 (by kernel_rfl)
                      have hb9_ := hall 9 (by kernel_rfl)
                      have hb10_ := hall 10 (by kernel_rfl)
                      have hb11_ := hall 11 (by kernel_rfl)
                      subst ha
                      simp only [putSel, hb4_, hb5_, hb6_, hb8_, hb9_, hb10_, hb11_, if_true, Act.put, List.setIfInBounds_toArray, List.set_cons_zero, List.set_cons_succ]
                      have HO_11 := Aside0.mk Q_HO_11
                      clear Q_HO_11
                      have BK466 := Aside0.mk Q_BK466
                      clear Q_BK466
                      have HB := Aside0.mk Q_HB
                      clear Q_HB
                      have HO475 := Aside0.mk (Q_HO475 hb9_)
                      clear Q_HO475
                      clear hall hb4_ hb5_ hb6_ hb8_ hb9_ hb10_ hb11_
                      (first | rw [c46b0] | skip)
                      try go_wp2
                      go_roundg kj31
                      case measure => have := HJ5.out; have := HJ16.out; have := HK3.out; have := HJ28.out; have := HJ31.out; omega
                      case rel => exact ⟨(wrap64 (x12_3 + 1)), (by first | rfl | (simp; done) | (simp [*]; done)), H', ⟨by have := HJ5.out; have := HJ16.out; have := HK3.out; have := HJ28.out; have := HJ31.out; omega⟩, ⟨by (with_reducible repeat (first | apply Kd.R_alloc | apply Kd.R_drewN | apply Kd.R_drew)); exact HO_11.out⟩, ⟨by repeat (first | (with_reducible first | exact HB.out | apply below_alloc | apply pw_below_drewN | apply below_drew1 | refine below_set ?_ GE466.out) | exact HB.out)⟩⟩
                    ·
                     rw [if_neg c43] at H
                     exact absurd H (by simp)
                   ·
                    rw [if_neg c42] at H
                    exact absurd H (by simp)
                  ·
                   rw [if_neg c40] at H
                   exact absurd H (by simp)
                 ·
                  rw [if_neg c39] at H
                  exact absurd H (by simp)
                ·
                 rw [if_neg c38] at H
                 exact absurd H (by simp)
               ·
                rw [if_neg c37] at H
                exact absurd H (by simp)
           ·
            replace c31 := Bool.eq_false_iff.mpr c31
            subst c31
            have H1 : ((belfrylaw04_known.f kj28).bind fun t462 => (some t462)) = some r := by rw [if_neg (show ¬ (false = true) by decide)] at H; exact H
            clear H
            have H := H1
            clear H1
            replace H := Option.bind_eq_some_iff.mp H
            obtain ⟨t462, A710, H⟩ := H
            replace H : (some t462) = some r := H
            have A71 := Aside0.mk A710
            clear A710
            obtain rfl := Option.some.inj H
            go_wp2_with (first | ((with_reducible refine gate_callee (f := 18) rfl ?_); refine goesL_ (some 97) rfl rfl Tryz.func18 (by kernel_rfl) rfl #[] rfl (by (try simp only [List.map_toArray, List.map_cons, List.map_nil]); first | done | rfl | (simp only [List.length_drop, List.length_take]; rfl)) ?_; (with_reducible refine (belfrylaw04_known.calls kj28  t462 _ A71.out).mono ?_); rintro e w72 ⟨rfl, hb⟩; refine ⟨_, rfl, ?_⟩; have n0_ := Aside0.mk (Kd.R_below (by (with_reducible repeat (first | apply Kd.R_alloc | apply Kd.R_drewN | apply Kd.R_drew)); exact HO_11.out) hb); have n1_ := Aside0.mk (below_step (by repeat (first | (with_reducible first | exact HB.out | apply below_alloc | apply pw_below_drewN | apply below_drew1) | exact HB.out)) hb); clear HO_11; clear HB; have HO_11 := n0_; have HB := n1_; clear n0_ n1_; (try clear hb); (try clear hb2); (try clear hk); (try clear hi)))
            go_ret
            exact ⟨by first | rfl | (simp [errW_none, errW_some] <;> rfl) | (simp [*, errW_none, errW_some] <;> rfl), by repeat (first | (with_reducible first | exact HB.out | apply below_alloc | apply pw_below_drewN | apply below_drew1) | exact HB.out)⟩
end Go.Proofs.YtnfanpjfhdlddaaGreatDoor.Pr
