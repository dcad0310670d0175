import Derived.Test.YtkedidjjhhjdbaaGreatDoorV0
import Derived.Test.YtkedidjjhhjdbaaGreatDoorV5
import Derived.Test.YtkedidjjhhjdbaaGreatDoorV16
namespace Go.Proofs.YtkedidjjhhjdbaaGreatDoor.Pr
open Go.RowKit Go.Proofs.YtkedidjjhhjdbaaGreatDoorW.PrintWords Go.Proofs.YtkedidjjhhjdbaaGreatDoorW.PrintLast Go.Proofs.YtkedidjjhhjdbaaGreatDoorW.PrintMore
open List renaming setIfInBounds_toArray → LsA, set_cons_zero → LsZ, set_cons_succ → LsS
attribute [local go_sem] max2_int min2_int max_two min_two max_three min_three max_four min_four strGtr strLeq strGeq
set_option linter.unusedVariables false
set_option linter.unusedSimpArgs false
def belfryref11_SameViews.l0 : Nat → List (S31) → List (S31) → Int → Option (Bool)
  | 0, _, _, _ => none
  | k + 1, x0, x1, x5 => if x5 < (x0.length : Int) then (if 0 ≤ x5 then (if x5 < (x1.length : Int) then (if ((rd_T31 x0 x5).f0).toList = ((rd_T31 x1 x5).f0).toList then ((belfryref04_SameMatch.f k ((rd_T31 x0 x5).f1) ((rd_T31 x1 x5).f1)).bind fun t238 => (if t238 = true then ((belfryref11_texts.f k ((rd_T31 x0 x5).f2) ((rd_T31 x1 x5).f2)).bind fun t241 => (if t241 = true then (belfryref11_SameViews.l0 k x0 x1 (wrap64 (x5 + 1))) else (some false))) else (some false))) else (some false)) else (none)) else (none)) else (some true)
def belfryref11_SameViews.f (k : Nat) (l0 : List (S31)) (l1 : List (S31)) : Option (Bool) := if (l0.length : Int) = (l1.length : Int) then (belfryref11_SameViews.l0 k l0 l1 0) else (some false)
def belfryref11_SameViews.T6 : Bool × List (List Nat × List Nat) := (true, [([], []), ([], []), ([0, 1], [0, 1]), ([2], [2]), ([3], [3]), ([], []), ([], []), ([5, 6], [5, 6]), ([7], [7]), ([8], [8]), ([4, 9], [4, 9]), ([10], [10]), ([11], [11]), ([11], [11]), ([12, 13, 11], [11, 12, 13]), ([14, 11], [11, 14]), ([15, 11], [11, 15]), ([11], [11]), ([11], [11]), ([17, 18, 11], [11, 17, 18]), ([19, 11], [11, 19]), ([20, 11], [11, 20]), ([16, 21, 11, 11], [11, 16, 21]), ([22, 11], [11, 22]), ([11, 23], [11, 23]), ([24, 22], [24]), ([25], [25]), ([25], [25]), ([26, 27, 25], [25, 26, 27]), ([28, 25], [25, 28]), ([29, 25], [25, 29]), ([25], [25]), ([25], [25]), ([31, 32, 25], [25, 31, 32]), ([33, 25], [25, 33]), ([34, 25], [25, 34]), ([30, 35, 25, 25], [25, 30, 35]), ([36, 25], [25, 36]), ([25, 37], [25, 37])])
def belfryref11_SameViews.B6 : List Nat := [0, 0, 3, 7, 15, 0, 0, 96, 224, 480, 1023, 2047, 4095, 4095, 16383, 32767, 65535, 4095, 4095, 397311, 921599, 1970175, 4194303, 8388607, 16777215, 33554431, 67108863, 67108863, 268435455, 536870911, 1073741823, 67108863, 67108863, 6509559807, 15099494399, 32279363583, 68719476735, 137438953471, 274877906943]
theorem belfryref11_SameViews.tab6 : rtab .any (opsOf Tryz.f12 6) = belfryref11_SameViews.T6 := by kernel_rfl
theorem belfryref11_SameViews.bits6 : waitsOk belfryref11_SameViews.T6.2 belfryref11_SameViews.B6 = true := by kernel_rfl
set_option maxHeartbeats 8000000 in
set_option maxRecDepth 100000 in
theorem belfryref11_SameViews.calls (k : Nat) (A0 : Option Addr) (c0 : Nat) (l0 : List (S31)) (A1 : Option Addr) (c1 : Nat) (l1 : List (S31)) (r : Bool) (w : World) (hr0 : Kd.C k31 w A0 l0.length l0) (hc0 : l0.length ≤ c0) (hr1 : Kd.C k31 w A1 l1.length l1) (hc1 : l1.length ≤ c1) (h : belfryref11_SameViews.f k l0 l1 = some r) (hrt : r = true) :
  Calls Tryz.prog 12 #[.slice A0 l0.length c0, .slice A1 l1.length c1] w fun e w' => e = .returned (.bool r) ∧ Below w.heap.size w w' := by
 have HRT := Aside0.mk hrt; clear hrt; have HR0 := Aside0.mk hr0; have HC0 := Aside0.mk hc0; clear hr0 hc0; have HR1 := Aside0.mk hr1; have HC1 := Aside0.mk hc1; clear hr1 hc1; have HB := Aside0.mk (Below.refl w.heap.size w)
 have H : (if (l0.length : Int) = (l1.length : Int) then (belfryref11_SameViews.l0 k l0 l1 0) else (some false)) = some r := h
 clear h; by_cases c3 : (l0.length : Int) = (l1.length : Int); rotate_left
 ·
  rw [if_neg c3] at H
  have c3b0 : ((l0.length : Int) == (l1.length : Int)) = false := beq_eq_false_iff_ne.mpr c3
  have c3b1 : ((l0.length : Int) != (l1.length : Int)) = true := bne_iff_ne.mpr c3
  have c3b2 : (l0.length == l1.length) = false := by first | simpa using c3 | (simp at c3 ⊢; omega)
  obtain rfl := Option.some.inj H
  exact absurd HRT.out (by simp)
 rw [if_pos c3] at H
 have c3b0 : ((l0.length : Int) == (l1.length : Int)) = true := beq_iff_eq.mpr c3
 have c3b1 : ((l0.length : Int) != (l1.length : Int)) = false := bne_eq_false_iff_eq.mpr c3
 have c3b2 : (l0.length == l1.length) = true := by first | simpa using c3 | (simp at c3 ⊢; omega)
 clear c3; have H' := Aside0.mk H; clear H
 go_enter Tryz.func12, Tryz.ntmps12
 go_wp2
 go_loopg [5] k (fun kq v5 w' => ∃ (x5_1 : Int), v5 = .int .i64 x5_1 ∧ Aside0 (belfryref11_SameViews.l0 kq l0 l1 x5_1 = some r) ∧ Aside0 (kq ≤ k) ∧ Aside0 (Below w.heap.size w w'))
 case atStart => exact ⟨(0), sR, H', ⟨Nat.le_refl _⟩, ⟨bO⟩⟩
 case round =>
  clear H'; (try clear c1); (try clear p2); (try clear c3); (try clear c3b0); (try clear c3b1); (try clear c3b2)
  obtain ⟨x5_1, rfl, HA, HK1, HB⟩ := hrel
  cases gk with
  | zero => exact absurd HA.out (by simp [belfryref11_SameViews.l0])
  | succ k1 =>
   have H := HA.out; clear HA
   simp only [belfryref11_SameViews.l0] at H
   by_cases c4 : x5_1 < (l0.length : Int); rotate_left
   ·
    rw [if_neg c4] at H
    have c4b0 : decide (x5_1 < (l0.length : Int)) = false := decide_eq_false c4
    clear c4
    obtain rfl := Option.some.inj H
    go_wp2; go_ret
    exact ⟨eR, bO⟩
   rw [if_pos c4] at H
   have c4b0 : decide (x5_1 < (l0.length : Int)) = true := decide_eq_true c4
   clear c4; by_cases c5 : 0 ≤ x5_1; rotate_left
   · rw [if_neg c5] at H; exact absurd H (by simp)
   rw [if_pos c5] at H
   have c5b0 : decide (0 ≤ x5_1) = true := decide_eq_true c5
   clear c5; by_cases c6 : x5_1 < (l1.length : Int); rotate_left
   · rw [if_neg c6] at H; exact absurd H (by simp)
   rw [if_pos c6] at H
   have c6b0 : decide (x5_1 < (l1.length : Int)) = true := decide_eq_true c6
   clear c6; by_cases c7 : ((rd_T31 l0 x5_1).f0).toList = ((rd_T31 l1 x5_1).f0).toList; rotate_left
   ·
    rw [if_neg c7] at H
    have c7b0 : (((rd_T31 l0 x5_1).f0).toList == ((rd_T31 l1 x5_1).f0).toList) = false := beq_eq_false_iff_ne.mpr c7
    have c7b1 : (((rd_T31 l0 x5_1).f0).toList != ((rd_T31 l1 x5_1).f0).toList) = true := bne_iff_ne.mpr c7
    obtain rfl := Option.some.inj H
    exact absurd HRT.out (by simp)
   rw [if_pos c7] at H
   have c7b0 : (((rd_T31 l0 x5_1).f0).toList == ((rd_T31 l1 x5_1).f0).toList) = true := beq_iff_eq.mpr c7
   have c7b1 : (((rd_T31 l0 x5_1).f0).toList != ((rd_T31 l1 x5_1).f0).toList) = false := bne_eq_false_iff_eq.mpr c7
   clear c7
   replace H := Option.bind_eq_some_iff.mp H
   obtain ⟨t238, A80, H⟩ := H
   replace H : (if t238 = true then ((belfryref11_texts.f k1 ((rd_T31 l0 x5_1).f2) ((rd_T31 l1 x5_1).f2)).bind fun t241 => (if t241 = true then (belfryref11_SameViews.l0 k1 l0 l1 (wrap64 (x5_1 + 1))) else (some false))) else (some false)) = some r := H
   have A8 := Aside0.mk A80; clear A80; by_cases c9 : t238 = true; rotate_left
   ·
    replace c9 := Bool.eq_false_iff.mpr c9
    subst c9
    have H1 : (some false) = some r := by rw [if_neg (show ¬ (false = true) by decide)] at H; exact H
    clear H; have H := H1; clear H1
    obtain rfl := Option.some.inj H
    exact absurd HRT.out (by simp)
   subst c9
   have H1 : ((belfryref11_texts.f k1 ((rd_T31 l0 x5_1).f2) ((rd_T31 l1 x5_1).f2)).bind fun t241 => (if t241 = true then (belfryref11_SameViews.l0 k1 l0 l1 (wrap64 (x5_1 + 1))) else (some false))) = some r := by rw [if_pos rfl] at H; exact H
   clear H; have H := H1; clear H1
   replace H := Option.bind_eq_some_iff.mp H
   obtain ⟨t241, A100, H⟩ := H
   replace H : (if t241 = true then (belfryref11_SameViews.l0 k1 l0 l1 (wrap64 (x5_1 + 1))) else (some false)) = some r := H
   have A10 := Aside0.mk A100; clear A100; by_cases c11 : t241 = true; rotate_left
   ·
    replace c11 := Bool.eq_false_iff.mpr c11
    subst c11
    have H1 : (some false) = some r := by rw [if_neg (show ¬ (false = true) by decide)] at H; exact H
    clear H; have H := H1; clear H1
    obtain rfl := Option.some.inj H
    exact absurd HRT.out (by simp)
   subst c11
   have H1 : (belfryref11_SameViews.l0 k1 l0 l1 (wrap64 (x5_1 + 1))) = some r := by rw [if_pos rfl] at H; exact H
   clear H; have H := H1; clear H1; have H' := Aside0.mk H; clear H
   try go_wp2
   have n0_ := Aside0.mk (below_drew1 HB.out); clear HB; have HB := n0_; clear n0_
   have p234 : 0 ≤ (x5_1 : Int) := of_decide_eq_true asm
   have q234 : x5_1 < (l0.length : Int) := of_decide_eq_true asm
   obtain ⟨ad234, A234_1, c234_1, A234_2, c234_2, e234, hx234_0, hx234_1, hx234_2, hl234_1, hi234_1, hl234_2, hi234_2⟩ := at_T31 HR0.out x5_1 p234 q234
   have hw234_2 := hx234_2; have hw234_1 := hx234_1; have hw234_0 := hx234_0; cases e234
   replace hx234_0 := bC HB hx234_0
   replace hx234_1 := bC HB hx234_1
   replace hx234_2 := bC HB hx234_2
   have HR234_1 := Aside0.mk hi234_1; have HC234_1 := Aside0.mk hl234_1; clear hi234_1 hl234_1; have HR234_2 := Aside0.mk hi234_2; have HC234_2 := Aside0.mk hl234_2; clear hi234_2 hl234_2; replace p234 := eq_true p234; replace q234 := eq_true q234
   have p235 : 0 ≤ (x5_1 : Int) := of_decide_eq_true asm
   have q235 : x5_1 < (l1.length : Int) := of_decide_eq_true asm
   obtain ⟨ad235, A235_1, c235_1, A235_2, c235_2, e235, hx235_0, hx235_1, hx235_2, hl235_1, hi235_1, hl235_2, hi235_2⟩ := at_T31 HR1.out x5_1 p235 q235
   have hw235_2 := hx235_2; have hw235_1 := hx235_1; have hw235_0 := hx235_0; cases e235
   replace hx235_0 := bC HB hx235_0
   replace hx235_1 := bC HB hx235_1
   replace hx235_2 := bC HB hx235_2
   have HR235_1 := Aside0.mk hi235_1; have HC235_1 := Aside0.mk hl235_1; clear hi235_1 hl235_1; have HR235_2 := Aside0.mk hi235_2; have HC235_2 := Aside0.mk hl235_2; clear hi235_2 hl235_2; replace p235 := eq_true p235; replace q235 := eq_true q235
   have p236 : 0 ≤ (x5_1 : Int) := of_decide_eq_true asm
   have q236 : x5_1 < (l0.length : Int) := of_decide_eq_true asm
   obtain ⟨ad236, A236_1, c236_1, A236_2, c236_2, e236, hx236_0, hx236_1, hx236_2, hl236_1, hi236_1, hl236_2, hi236_2⟩ := at_T31 HR0.out x5_1 p236 q236
   have hw236_2 := hx236_2; have hw236_1 := hx236_1; have hw236_0 := hx236_0
   obtain rfl : ad234 = ad236 := (by injection e236)
   replace hx236_0 := bC HB hx236_0
   replace hx236_1 := bC HB hx236_1
   replace hx236_2 := bC HB hx236_2
   have HR236_1 := Aside0.mk hi236_1; have HC236_1 := Aside0.mk hl236_1; clear hi236_1 hl236_1; have HR236_2 := Aside0.mk hi236_2; have HC236_2 := Aside0.mk hl236_2; clear hi236_2 hl236_2; replace p236 := eq_true p236; replace q236 := eq_true q236; have ea_ := Option.some.inj (hx234_1.symm.trans hx236_1)
   injection ea_ with ea_ en_ ec_
   subst ea_; subst ec_; clear en_; have ea_ := Option.some.inj (hx234_2.symm.trans hx236_2)
   injection ea_ with ea_ en_ ec_
   subst ea_; subst ec_; clear en_
   have p237 : 0 ≤ (x5_1 : Int) := of_decide_eq_true asm
   have q237 : x5_1 < (l1.length : Int) := of_decide_eq_true asm
   obtain ⟨ad237, A237_1, c237_1, A237_2, c237_2, e237, hx237_0, hx237_1, hx237_2, hl237_1, hi237_1, hl237_2, hi237_2⟩ := at_T31 HR1.out x5_1 p237 q237
   have hw237_2 := hx237_2; have hw237_1 := hx237_1; have hw237_0 := hx237_0
   obtain rfl : ad235 = ad237 := (by injection e237)
   replace hx237_0 := bC HB hx237_0
   replace hx237_1 := bC HB hx237_1
   replace hx237_2 := bC HB hx237_2
   have HR237_1 := Aside0.mk hi237_1; have HC237_1 := Aside0.mk hl237_1; clear hi237_1 hl237_1; have HR237_2 := Aside0.mk hi237_2; have HC237_2 := Aside0.mk hl237_2; clear hi237_2 hl237_2; replace p237 := eq_true p237; replace q237 := eq_true q237; have ea_ := Option.some.inj (hx235_1.symm.trans hx237_1)
   injection ea_ with ea_ en_ ec_
   subst ea_; subst ec_; clear en_; have ea_ := Option.some.inj (hx235_2.symm.trans hx237_2)
   injection ea_ with ea_ en_ ec_
   subst ea_; subst ec_; clear en_
   have p239 : 0 ≤ (x5_1 : Int) := of_decide_eq_true asm
   have q239 : x5_1 < (l0.length : Int) := of_decide_eq_true asm
   obtain ⟨ad239, A239_1, c239_1, A239_2, c239_2, e239, hx239_0, hx239_1, hx239_2, hl239_1, hi239_1, hl239_2, hi239_2⟩ := at_T31 HR0.out x5_1 p239 q239
   have hw239_2 := hx239_2; have hw239_1 := hx239_1; have hw239_0 := hx239_0
   obtain rfl : ad234 = ad239 := (by injection e239)
   replace hx239_0 := bC HB hx239_0
   replace hx239_1 := bC HB hx239_1
   replace hx239_2 := bC HB hx239_2
   have HR239_1 := Aside0.mk hi239_1; have HC239_1 := Aside0.mk hl239_1; clear hi239_1 hl239_1; have HR239_2 := Aside0.mk hi239_2; have HC239_2 := Aside0.mk hl239_2; clear hi239_2 hl239_2; replace p239 := eq_true p239; replace q239 := eq_true q239; have ea_ := Option.some.inj (hx234_1.symm.trans hx239_1)
   injection ea_ with ea_ en_ ec_
   subst ea_; subst ec_; clear en_; have ea_ := Option.some.inj (hx234_2.symm.trans hx239_2)
   injection ea_ with ea_ en_ ec_
   subst ea_; subst ec_; clear en_
   have p240 : 0 ≤ (x5_1 : Int) := of_decide_eq_true asm
   have q240 : x5_1 < (l1.length : Int) := of_decide_eq_true asm
   obtain ⟨ad240, A240_1, c240_1, A240_2, c240_2, e240, hx240_0, hx240_1, hx240_2, hl240_1, hi240_1, hl240_2, hi240_2⟩ := at_T31 HR1.out x5_1 p240 q240
   have hw240_2 := hx240_2; have hw240_1 := hx240_1; have hw240_0 := hx240_0
   obtain rfl : ad235 = ad240 := (by injection e240)
   replace hx240_0 := bC HB hx240_0
   replace hx240_1 := bC HB hx240_1
   replace hx240_2 := bC HB hx240_2
   have HR240_1 := Aside0.mk hi240_1; have HC240_1 := Aside0.mk hl240_1; clear hi240_1 hl240_1; have HR240_2 := Aside0.mk hi240_2; have HC240_2 := Aside0.mk hl240_2; clear hi240_2 hl240_2; replace p240 := eq_true p240; replace q240 := eq_true q240; have ea_ := Option.some.inj (hx235_1.symm.trans hx240_1)
   injection ea_ with ea_ en_ ec_
   subst ea_; subst ec_; clear en_; have ea_ := Option.some.inj (hx235_2.symm.trans hx240_2)
   injection ea_ with ea_ en_ ec_
   subst ea_; subst ec_; clear en_
   refine start_ (n := 39) (S := fun w' => w'.cell? (ad234.add ((x5_1).toNat * 3)) = some (.string ((rd_T31 l0 x5_1).f0)) ∧ w'.cell? ⟨(ad234.add ((x5_1).toNat * 3)).block, (ad234.add ((x5_1).toNat * 3)).off + 1, none⟩ = some (.slice A234_1 ((rd_T31 l0 x5_1).f1).length c234_1) ∧ w'.cell? ⟨(ad234.add ((x5_1).toNat * 3)).block, (ad234.add ((x5_1).toNat * 3)).off + 2, none⟩ = some (.slice A234_2 ((rd_T31 l0 x5_1).f2).length c234_2) ∧ w'.cell? (ad235.add ((x5_1).toNat * 3)) = some (.string ((rd_T31 l1 x5_1).f0)) ∧ w'.cell? ⟨(ad235.add ((x5_1).toNat * 3)).block, (ad235.add ((x5_1).toNat * 3)).off + 1, none⟩ = some (.slice A235_1 ((rd_T31 l1 x5_1).f1).length c235_1) ∧ w'.cell? ⟨(ad235.add ((x5_1).toNat * 3)).block, (ad235.add ((x5_1).toNat * 3)).off + 2, none⟩ = some (.slice A235_2 ((rd_T31 l1 x5_1).f2).length c235_2) ∧ w'.cell? (ad234.add ((x5_1).toNat * 3)) = some (.string ((rd_T31 l0 x5_1).f0)) ∧ w'.cell? ⟨(ad234.add ((x5_1).toNat * 3)).block, (ad234.add ((x5_1).toNat * 3)).off + 1, none⟩ = some (.slice A234_1 ((rd_T31 l0 x5_1).f1).length c234_1) ∧ w'.cell? ⟨(ad234.add ((x5_1).toNat * 3)).block, (ad234.add ((x5_1).toNat * 3)).off + 2, none⟩ = some (.slice A234_2 ((rd_T31 l0 x5_1).f2).length c234_2) ∧ w'.cell? (ad235.add ((x5_1).toNat * 3)) = some (.string ((rd_T31 l1 x5_1).f0)) ∧ w'.cell? ⟨(ad235.add ((x5_1).toNat * 3)).block, (ad235.add ((x5_1).toNat * 3)).off + 1, none⟩ = some (.slice A235_1 ((rd_T31 l1 x5_1).f1).length c235_1) ∧ w'.cell? ⟨(ad235.add ((x5_1).toNat * 3)).block, (ad235.add ((x5_1).toNat * 3)).off + 2, none⟩ = some (.slice A235_2 ((rd_T31 l1 x5_1).f2).length c235_2) ∧ w'.cell? (ad234.add ((x5_1).toNat * 3)) = some (.string ((rd_T31 l0 x5_1).f0)) ∧ w'.cell? ⟨(ad234.add ((x5_1).toNat * 3)).block, (ad234.add ((x5_1).toNat * 3)).off + 1, none⟩ = some (.slice A234_1 ((rd_T31 l0 x5_1).f1).length c234_1) ∧ w'.cell? ⟨(ad234.add ((x5_1).toNat * 3)).block, (ad234.add ((x5_1).toNat * 3)).off + 2, none⟩ = some (.slice A234_2 ((rd_T31 l0 x5_1).f2).length c234_2) ∧ w'.cell? (ad235.add ((x5_1).toNat * 3)) = some (.string ((rd_T31 l1 x5_1).f0)) ∧ w'.cell? ⟨(ad235.add ((x5_1).toNat * 3)).block, (ad235.add ((x5_1).toNat * 3)).off + 1, none⟩ = some (.slice A235_1 ((rd_T31 l1 x5_1).f1).length c235_1) ∧ w'.cell? ⟨(ad235.add ((x5_1).toNat * 3)).block, (ad235.add ((x5_1).toNat * 3)).off + 2, none⟩ = some (.slice A235_2 ((rd_T31 l1 x5_1).f2).length c235_2)) (ds := []) (bA 39 0) (by kernel_rfl) rfl rfl ⟨(bC HB hw234_0), (bC HB hw234_1), (bC HB hw234_2), (bC HB hw235_0), (bC HB hw235_1), (bC HB hw235_2), (bC HB hw236_0), (bC HB hw236_1), (bC HB hw236_2), (bC HB hw237_0), (bC HB hw237_1), (bC HB hw237_2), (bC HB hw239_0), (bC HB hw239_1), (bC HB hw239_2), (bC HB hw240_0), (bC HB hw240_1), (bC HB hw240_2)⟩ (fun hHeld => ?_); refine with_tabW belfryref11_SameViews.tab6 belfryref11_SameViews.bits6 (fun HT_ HW_ => ?_)
   generalize wr.drew = w12 at HB HR234_1 HR234_2 HR235_1 HR235_2 HR236_1 HR236_2 HR237_1 HR237_2 HR239_1 HR239_2 HR240_1 HR240_2 hx234_0 hx234_1 hx234_2 hx235_0 hx235_1 hx235_2 hx236_0 hx236_1 hx236_2 hx237_0 hx237_1 hx237_2 hx239_0 hx239_1 hx239_2 hx240_0 hx240_1 hx240_2 hHeld ⊢
   refine pur 0 (some 17) (bA 39 1) HT_ rfl rfl (by kernel_rfl) (v := ?_) (a' := ?_) (Or.inl ⟨by rfl, ?_⟩) ?_ ?_
   rotate_left
   · intro w'; go_simp; with_reducible rfl
   rotate_left
   · simp only [Act.put, LsA, LsZ, LsS, i64_w, i32_w]; rfl
   refine pur 1 (some 18) (bA 39 3) HT_ rfl rfl (by kernel_rfl) (v := ?_) (a' := ?_) (Or.inl ⟨by rfl, ?_⟩) ?_ ?_
   rotate_left
   · intro w'; go_simp; with_reducible rfl
   rotate_left
   · simp only [Act.put, LsA, LsZ, LsS, i64_w, i32_w]; rfl
   refine pur 2 (some 19) (bA 39 7) HT_ rfl rfl (by kernel_rfl) (v := ?_) (a' := ?_) (Or.inl ⟨by rfl, ?_⟩) ?_ ?_
   rotate_left
   · intro w'; go_simp; with_reducible rfl
   rotate_left
   · simp only [Act.put, LsA, LsZ, LsS, i64_w, i32_w]; rfl
   refine pur 3 (some 20) (bA 39 15) HT_ rfl rfl (by kernel_rfl) (v := ?_) (a' := ?_) (Or.inl ⟨by rfl, ?_⟩) ?_ ?_
   rotate_left
   · intro w'; go_simp; with_reducible rfl
   rotate_left
   · simp only [Act.put, LsA, LsZ, LsS, i64_w, i32_w]; rfl
   refine pur 5 (some 22) (bA 39 47) HT_ rfl rfl (by kernel_rfl) (v := ?_) (a' := ?_) (Or.inl ⟨by rfl, ?_⟩) ?_ ?_
   rotate_left
   · intro w'; go_simp; with_reducible rfl
   rotate_left
   · simp only [Act.put, LsA, LsZ, LsS, i64_w, i32_w]; rfl
   refine pur 6 (some 23) (bA 39 111) HT_ rfl rfl (by kernel_rfl) (v := ?_) (a' := ?_) (Or.inl ⟨by rfl, ?_⟩) ?_ ?_
   rotate_left
   · intro w'; go_simp; with_reducible rfl
   rotate_left
   · simp only [Act.put, LsA, LsZ, LsS, i64_w, i32_w]; rfl
   refine pur 7 (some 24) (bA 39 239) HT_ rfl rfl (by kernel_rfl) (v := ?_) (a' := ?_) (Or.inl ⟨by rfl, ?_⟩) ?_ ?_
   rotate_left
   · intro w'; go_simp; with_reducible rfl
   rotate_left
   · simp only [Act.put, LsA, LsZ, LsS, i64_w, i32_w]; rfl
   refine pur 8 (some 25) (bA 39 495) HT_ rfl rfl (by kernel_rfl) (v := ?_) (a' := ?_) (Or.inl ⟨by rfl, ?_⟩) ?_ ?_
   rotate_left
   · intro w'; go_simp; with_reducible rfl
   rotate_left
   · simp only [Act.put, LsA, LsZ, LsS, i64_w, i32_w]; rfl
   refine take_ (i := 4) (N := some 21) (v := ?_) (a' := ?_) (bA 39 511) rfl rfl (take_ofW HT_.out HW_.out (by kernel_rfl)) (fun _ _ _ h => h) (Or.inl ⟨by rfl, ?_⟩) hHeld ?_ ?_
   rotate_left
   ·
    rintro w' ⟨s0, s1, s2, s3, s4, s5, s6, s7, s8, s9, s10, s11, s12, s13, s14, s15, s16, s17⟩
    go_simp; with_reducible rfl
   rotate_left
   · simp only [Act.put, LsA, LsZ, LsS, i64_w, i32_w]; rfl
   refine take_ (i := 9) (N := some 26) (v := ?_) (a' := ?_) (bA 39 1023) rfl rfl (take_ofW HT_.out HW_.out (by kernel_rfl)) (fun _ _ _ h => h) (Or.inl ⟨by rfl, ?_⟩) hHeld ?_ ?_
   rotate_left
   ·
    rintro w' ⟨s0, s1, s2, s3, s4, s5, s6, s7, s8, s9, s10, s11, s12, s13, s14, s15, s16, s17⟩
    go_simp; with_reducible rfl
   rotate_left
   · simp only [Act.put, LsA, LsZ, LsS, i64_w, i32_w]; rfl
   refine pur 10 (some 27) (bA 39 2047) HT_ rfl rfl (by kernel_rfl) (v := ?_) (a' := ?_) (Or.inl ⟨by rfl, ?_⟩) ?_ ?_
   rotate_left
   · intro w'; go_simp; with_reducible rfl
   rotate_left
   · simp only [Act.put, LsA, LsZ, LsS, i64_w, i32_w]; rfl
   refine pur 11 (some 28) (bA 39 4095) HT_ rfl rfl (by kernel_rfl) (v := ?_) (a' := ?_) (Or.inl ⟨by rfl, ?_⟩) ?_ ?_
   rotate_left
   · intro w'; go_simp; with_reducible rfl
   rotate_left
   · simp only [Act.put, LsA, LsZ, LsS, i64_w, i32_w]; rfl
   refine pur 12 (some 29) (bA 39 8191) HT_ rfl rfl (by kernel_rfl) (v := ?_) (a' := ?_) (Or.inl ⟨by rfl, ?_⟩) ?_ ?_
   rotate_left
   · intro w'; go_simp; with_reducible rfl
   rotate_left
   · simp only [Act.put, LsA, LsZ, LsS, i64_w, i32_w]; rfl
   refine pur 13 (some 30) (bA 39 16383) HT_ rfl rfl (by kernel_rfl) (v := ?_) (a' := ?_) (Or.inl ⟨by rfl, ?_⟩) ?_ ?_
   rotate_left
   · intro w'; go_simp; with_reducible rfl
   rotate_left
   · simp only [Act.put, LsA, LsZ, LsS, i64_w, i32_w]; rfl
   refine pur 14 (some 31) (bA 39 32767) HT_ rfl rfl (by kernel_rfl) (v := ?_) (a' := ?_) (Or.inl ⟨by rfl, ?_⟩) ?_ ?_
   rotate_left
   · intro w'; go_simp; with_reducible rfl
   rotate_left
   · simp only [Act.put, LsA, LsZ, LsS, i64_w, i32_w]; rfl
   refine pur 15 (some 32) (bA 39 65535) HT_ rfl rfl (by kernel_rfl) (v := ?_) (a' := ?_) (Or.inl ⟨by rfl, ?_⟩) ?_ ?_
   rotate_left
   · intro w'; go_simp; with_reducible rfl
   rotate_left
   · simp only [Act.put, LsA, LsZ, LsS, i64_w, i32_w]; rfl
   refine pur 17 (some 34) (bA 39 196607) HT_ rfl rfl (by kernel_rfl) (v := ?_) (a' := ?_) (Or.inl ⟨by rfl, ?_⟩) ?_ ?_
   rotate_left
   · intro w'; go_simp; with_reducible rfl
   rotate_left
   · simp only [Act.put, LsA, LsZ, LsS, i64_w, i32_w]; rfl
   refine pur 18 (some 35) (bA 39 458751) HT_ rfl rfl (by kernel_rfl) (v := ?_) (a' := ?_) (Or.inl ⟨by rfl, ?_⟩) ?_ ?_
   rotate_left
   · intro w'; go_simp; with_reducible rfl
   rotate_left
   · simp only [Act.put, LsA, LsZ, LsS, i64_w, i32_w]; rfl
   refine pur 19 (some 36) (bA 39 983039) HT_ rfl rfl (by kernel_rfl) (v := ?_) (a' := ?_) (Or.inl ⟨by rfl, ?_⟩) ?_ ?_
   rotate_left
   · intro w'; go_simp; with_reducible rfl
   rotate_left
   · simp only [Act.put, LsA, LsZ, LsS, i64_w, i32_w]; rfl
   refine pur 20 (some 37) (bA 39 2031615) HT_ rfl rfl (by kernel_rfl) (v := ?_) (a' := ?_) (Or.inl ⟨by rfl, ?_⟩) ?_ ?_
   rotate_left
   · intro w'; go_simp; with_reducible rfl
   rotate_left
   · simp only [Act.put, LsA, LsZ, LsS, i64_w, i32_w]; rfl
   refine take_ (i := 16) (N := some 33) (v := ?_) (a' := ?_) (bA 39 2097151) rfl rfl (take_ofW HT_.out HW_.out (by kernel_rfl)) (fun _ _ _ h => h) (Or.inl ⟨by rfl, ?_⟩) hHeld ?_ ?_
   rotate_left
   ·
    rintro w' ⟨s0, s1, s2, s3, s4, s5, s6, s7, s8, s9, s10, s11, s12, s13, s14, s15, s16, s17⟩
    go_simp; with_reducible rfl
   rotate_left
   · simp only [Act.put, LsA, LsZ, LsS, i64_w, i32_w]; rfl
   refine take_ (i := 21) (N := some 38) (v := ?_) (a' := ?_) (bA 39 4194303) rfl rfl (take_ofW HT_.out HW_.out (by kernel_rfl)) (fun _ _ _ h => h) (Or.inl ⟨by rfl, ?_⟩) hHeld ?_ ?_
   rotate_left
   ·
    rintro w' ⟨s0, s1, s2, s3, s4, s5, s6, s7, s8, s9, s10, s11, s12, s13, s14, s15, s16, s17⟩
    go_simp; with_reducible rfl
   rotate_left
   · simp only [Act.put, LsA, LsZ, LsS, i64_w, i32_w]; rfl
   refine one_ (i := 22) (N := some 39) (bA 39 8388607) rfl rfl (one_of HT_.out (by kernel_rfl)) (by decide) (fun K hK => ?_)
   refine goes_ Tryz.func33 (by kernel_rfl) rfl #[.slice A234_1 ((rd_T31 l0 x5_1).f1).length c234_1, .slice A235_1 ((rd_T31 l1 x5_1).f1).length c235_1] (by rfl) rfl rfl lR ?_
   with_reducible refine (belfryref04_SameMatch.calls k1 _ _ ((rd_T31 l0 x5_1).f1) _ _ ((rd_T31 l1 x5_1).f1) true _ ?side1 ?side2 ?side3 ?side4 A8.out).mono ?_
   (case side1 => repeat (first | exact (Kd.C_below HR236_1.out HB.out) | (with_reducible refine Kd.C_alloc ?_ _) | (with_reducible refine Kd.C_drewN ?_ _) | (with_reducible refine Kd.C_drew ?_)))
   (case side2 => exact HC236_1.out)
   (case side3 => repeat (first | exact (Kd.C_below HR237_1.out HB.out) | (with_reducible refine Kd.C_alloc ?_ _) | (with_reducible refine Kd.C_drewN ?_ _) | (with_reducible refine Kd.C_drew ?_)))
   (case side4 => exact HC237_1.out)
   rintro e w' ⟨rfl, ⟨nd, rfl⟩⟩
   refine ⟨_, rfl, ?_⟩
   refine hK.out _ _ ⟨(bC HB hw234_0 :), (bC HB hw234_1 :), (bC HB hw234_2 :), (bC HB hw235_0 :), (bC HB hw235_1 :), (bC HB hw235_2 :), (bC HB hw236_0 :), (bC HB hw236_1 :), (bC HB hw236_2 :), (bC HB hw237_0 :), (bC HB hw237_1 :), (bC HB hw237_2 :), (bC HB hw239_0 :), (bC HB hw239_1 :), (bC HB hw239_2 :), (bC HB hw240_0 :), (bC HB hw240_1 :), (bC HB hw240_2 :)⟩ (fun hHeld => ?_)
   clear hK K
   refine norm_ (a' := ?_) ?_ ?_
   rotate_left
   ·
    show Act.put _ (some 39) _ = _
    simp only [Act.put, LsA, LsZ, LsS, i64_w, i32_w]; rfl
   refine pur 23 (some 40) (bA 39 16777215) HT_ rfl rfl (by kernel_rfl) (v := ?_) (a' := ?_) (Or.inl ⟨by rfl, ?_⟩) ?_ ?_
   rotate_left
   · intro w'; go_simp; with_reducible rfl
   rotate_left
   · simp only [Act.put, LsA, LsZ, LsS, i64_w, i32_w]; rfl
   refine pur 24 (some 41) (bA 39 33554431) HT_ rfl rfl (by kernel_rfl) (v := ?_) (a' := ?_) (Or.inl ⟨by rfl, ?_⟩) ?_ ?_
   rotate_left
   · intro w'; go_simp; with_reducible rfl
   rotate_left
   · simp only [Act.put, LsA, LsZ, LsS, i64_w, i32_w]; rfl
   refine pur 25 (some 42) (bA 39 67108863) HT_ rfl rfl (by kernel_rfl) (v := ?_) (a' := ?_) (Or.inl ⟨by rfl, ?_⟩) ?_ ?_
   rotate_left
   · intro w'; go_simp; with_reducible rfl
   rotate_left
   · simp only [Act.put, LsA, LsZ, LsS, i64_w, i32_w]; rfl
   refine pur 26 (some 43) (bA 39 134217727) HT_ rfl rfl (by kernel_rfl) (v := ?_) (a' := ?_) (Or.inl ⟨by rfl, ?_⟩) ?_ ?_
   rotate_left
   · intro w'; go_simp; with_reducible rfl
   rotate_left
   · simp only [Act.put, LsA, LsZ, LsS, i64_w, i32_w]; rfl
   refine pur 27 (some 44) (bA 39 268435455) HT_ rfl rfl (by kernel_rfl) (v := ?_) (a' := ?_) (Or.inl ⟨by rfl, ?_⟩) ?_ ?_
   rotate_left
   · intro w'; go_simp; with_reducible rfl
   rotate_left
   · simp only [Act.put, LsA, LsZ, LsS, i64_w, i32_w]; rfl
   refine pur 28 (some 45) (bA 39 536870911) HT_ rfl rfl (by kernel_rfl) (v := ?_) (a' := ?_) (Or.inl ⟨by rfl, ?_⟩) ?_ ?_
   rotate_left
   · intro w'; go_simp; with_reducible rfl
   rotate_left
   · simp only [Act.put, LsA, LsZ, LsS, i64_w, i32_w]; rfl
   refine pur 29 (some 46) (bA 39 1073741823) HT_ rfl rfl (by kernel_rfl) (v := ?_) (a' := ?_) (Or.inl ⟨by rfl, ?_⟩) ?_ ?_
   rotate_left
   · intro w'; go_simp; with_reducible rfl
   rotate_left
   · simp only [Act.put, LsA, LsZ, LsS, i64_w, i32_w]; rfl
   refine pur 31 (some 48) (bA 39 3221225471) HT_ rfl rfl (by kernel_rfl) (v := ?_) (a' := ?_) (Or.inl ⟨by rfl, ?_⟩) ?_ ?_
   rotate_left
   · intro w'; go_simp; with_reducible rfl
   rotate_left
   · simp only [Act.put, LsA, LsZ, LsS, i64_w, i32_w]; rfl
   refine pur 32 (some 49) (bA 39 7516192767) HT_ rfl rfl (by kernel_rfl) (v := ?_) (a' := ?_) (Or.inl ⟨by rfl, ?_⟩) ?_ ?_
   rotate_left
   · intro w'; go_simp; with_reducible rfl
   rotate_left
   · simp only [Act.put, LsA, LsZ, LsS, i64_w, i32_w]; rfl
   refine pur 33 (some 50) (bA 39 16106127359) HT_ rfl rfl (by kernel_rfl) (v := ?_) (a' := ?_) (Or.inl ⟨by rfl, ?_⟩) ?_ ?_
   rotate_left
   · intro w'; go_simp; with_reducible rfl
   rotate_left
   · simp only [Act.put, LsA, LsZ, LsS, i64_w, i32_w]; rfl
   refine pur 34 (some 51) (bA 39 33285996543) HT_ rfl rfl (by kernel_rfl) (v := ?_) (a' := ?_) (Or.inl ⟨by rfl, ?_⟩) ?_ ?_
   rotate_left
   · intro w'; go_simp; with_reducible rfl
   rotate_left
   · simp only [Act.put, LsA, LsZ, LsS, i64_w, i32_w]; rfl
   refine take_ (i := 30) (N := some 47) (v := ?_) (a' := ?_) (bA 39 34359738367) rfl rfl (take_ofW HT_.out HW_.out (by kernel_rfl)) (fun _ _ _ h => h) (Or.inl ⟨by rfl, ?_⟩) hHeld ?_ ?_
   rotate_left
   ·
    rintro w' ⟨s0, s1, s2, s3, s4, s5, s6, s7, s8, s9, s10, s11, s12, s13, s14, s15, s16, s17⟩
    go_simp; with_reducible rfl
   rotate_left
   · simp only [Act.put, LsA, LsZ, LsS, i64_w, i32_w]; rfl
   refine take_ (i := 35) (N := some 52) (v := ?_) (a' := ?_) (bA 39 68719476735) rfl rfl (take_ofW HT_.out HW_.out (by kernel_rfl)) (fun _ _ _ h => h) (Or.inl ⟨by rfl, ?_⟩) hHeld ?_ ?_
   rotate_left
   ·
    rintro w' ⟨s0, s1, s2, s3, s4, s5, s6, s7, s8, s9, s10, s11, s12, s13, s14, s15, s16, s17⟩
    go_simp; with_reducible rfl
   rotate_left
   · simp only [Act.put, LsA, LsZ, LsS, i64_w, i32_w]; rfl
   refine one_ (i := 36) (N := some 53) (bA 39 137438953471) rfl rfl (one_of HT_.out (by kernel_rfl)) (by decide) (fun K hK => ?_)
   refine goes_ Tryz.func34 (by kernel_rfl) rfl #[.slice A234_2 ((rd_T31 l0 x5_1).f2).length c234_2, .slice A235_2 ((rd_T31 l1 x5_1).f2).length c235_2] (by rfl) rfl rfl lR ?_
   with_reducible refine (belfryref11_texts.calls k1 _ _ ((rd_T31 l0 x5_1).f2) _ _ ((rd_T31 l1 x5_1).f2) true _ ?side1 ?side2 ?side3 ?side4 A10.out).mono ?_
   (case side1 => repeat (first | exact (Kd.C_below HR239_2.out bO) | (with_reducible refine Kd.C_alloc ?_ _) | (with_reducible refine Kd.C_drewN ?_ _) | (with_reducible refine Kd.C_drew ?_)))
   (case side2 => exact HC239_2.out)
   (case side3 => repeat (first | exact (Kd.C_below HR240_2.out bO) | (with_reducible refine Kd.C_alloc ?_ _) | (with_reducible refine Kd.C_drewN ?_ _) | (with_reducible refine Kd.C_drew ?_)))
   (case side4 => exact HC240_2.out)
   rintro e w' ⟨rfl, ⟨nd, rfl⟩⟩
   refine ⟨_, rfl, ?_⟩
   refine hK.out _ _ ⟨(bC HB hw234_0 :), (bC HB hw234_1 :), (bC HB hw234_2 :), (bC HB hw235_0 :), (bC HB hw235_1 :), (bC HB hw235_2 :), (bC HB hw236_0 :), (bC HB hw236_1 :), (bC HB hw236_2 :), (bC HB hw237_0 :), (bC HB hw237_1 :), (bC HB hw237_2 :), (bC HB hw239_0 :), (bC HB hw239_1 :), (bC HB hw239_2 :), (bC HB hw240_0 :), (bC HB hw240_1 :), (bC HB hw240_2 :)⟩ (fun hHeld => ?_)
   clear hK K
   refine norm_ (a' := ?_) ?_ ?_
   rotate_left
   ·
    show Act.put _ (some 53) _ = _
    simp only [Act.put, LsA, LsZ, LsS, i64_w, i32_w]; rfl
   refine pur 37 (some 54) (bA 39 274877906943) HT_ rfl rfl (by kernel_rfl) (v := ?_) (a' := ?_) (Or.inl ⟨by rfl, ?_⟩) ?_ ?_
   rotate_left
   · intro w'; go_simp; with_reducible rfl
   rotate_left
   · simp only [Act.put, LsA, LsZ, LsS, i64_w, i32_w]; rfl
   refine pur 38 (some 55) (bA 39 549755813887) HT_ rfl rfl (by kernel_rfl) (v := ?_) (a' := ?_) (Or.inl ⟨by rfl, ?_⟩) ?_ ?_
   rotate_left
   · intro w'; go_simp; with_reducible rfl
   rotate_left
   · simp only [Act.put, LsA, LsZ, LsS, i64_w, i32_w]; rfl
   refine done_ (done_of HT_.out (by kernel_rfl)) ?_
   try go_wp2
   go_roundg k1
   case measure => have := HK1.out; omega
   case rel => exact ⟨(wrap64 (x5_1 + 1)), sR, H', ⟨by have := HK1.out; omega⟩, ⟨bO⟩⟩
end Go.Proofs.YtkedidjjhhjdbaaGreatDoor.Pr
