import Derived.Test.YtkedidjjhhjdbaaGreatDoorV0
import Derived.Test.YtkedidjjhhjdbaaGreatDoorV5
import Derived.Test.YtkedidjjhhjdbaaGreatDoorV12
import Derived.Test.YtkedidjjhhjdbaaGreatDoorV13
namespace Go.Proofs.YtkedidjjhhjdbaaGreatDoor.Pr
open Go.RowKit Go.Proofs.YtkedidjjhhjdbaaGreatDoorW.PrintWords Go.Proofs.YtkedidjjhhjdbaaGreatDoorW.PrintLast Go.Proofs.YtkedidjjhhjdbaaGreatDoorW.PrintMore
open List renaming setIfInBounds_toArray → LsA, set_cons_zero → LsZ, set_cons_succ → LsS
attribute [local go_sem] max2_int min2_int max_two min_two max_three min_three max_four min_four strGtr strLeq strGeq
set_option linter.unusedVariables false
set_option linter.unusedSimpArgs false
mutual
def belfryref11_Views.j0 : Nat → List (S46) → ByteArray → ByteArray → Int → Bool → Option ((List (S31)))
  | 0, _, _, _, _, _ => none
  | k + 1, x0, x1, x2, x3, x21 => if x21 = true then (some ([] : List (S31))) else (if x2.toList = x1.toList then (some (([(⟨x1, ([] : List (S33)), ([] : List ByteArray)⟩ : S31)] : List (S31)))) else (belfryref11_Views.l0 k x0 x1 x2 x3 ([] : List (S33)) 0))
def belfryref11_Views.l0 : Nat → List (S46) → ByteArray → ByteArray → Int → List (S33) → Int → Option ((List (S31)))
  | 0, _, _, _, _, _, _ => none
  | k + 1, x0, x1, x2, x3, x9, x10 => if x10 < (x0.length : Int) then (if 0 ≤ x10 then (if (rd_T46 x0 x10).f0 = true then ((belfryref11_fits.f k ((rd_T46 x0 x10).f0) ((rd_T46 x0 x10).f1) ((rd_T46 x0 x10).f2) ((rd_T46 x0 x10).f3) ((rd_T46 x0 x10).f4) x2 x3).bind fun t320 => (belfryref11_Views.j2 k x0 x1 x2 x3 x9 x10 t320)) else (belfryref11_Views.j2 k x0 x1 x2 x3 x9 x10 false)) else (none)) else (belfryref11_Views.l1 k x0 x1 x2 x3 x9 ([] : List (S31)) 0)
def belfryref11_Views.j2 : Nat → List (S46) → ByteArray → ByteArray → Int → List (S33) → Int → Bool → Option ((List (S31)))
  | 0, _, _, _, _, _, _, _ => none
  | k + 1, x0, x1, x2, x3, x9, x10, x47 => if x47 = true then (if 0 ≤ x10 then (if x10 < (x0.length : Int) then (if (((rd_T46 x0 x10).f3).length : Int) = 0 then (some ([] : List (S31))) else (if 0 < (((rd_T46 x0 x10).f3).length : Int) then ((belfryref11_Other.f ((rd_T33 ((rd_T46 x0 x10).f3) 0).f0) ((rd_T33 ((rd_T46 x0 x10).f3) 0).f1) ((rd_T33 ((rd_T46 x0 x10).f3) 0).f2)).bind fun bt324 => (if x9.length < 3518437208883 then (belfryref11_Views.l0 k x0 x1 x2 x3 (x9 ++ [(⟨bt324.1, bt324.2.1, bt324.2.2⟩ : S33)]) (wrap64 (x10 + 1))) else (none))) else (none))) else (none)) else (none)) else (belfryref11_Views.l0 k x0 x1 x2 x3 x9 (wrap64 (x10 + 1)))
def belfryref11_Views.l1 : Nat → List (S46) → ByteArray → ByteArray → Int → List (S33) → List (S31) → Int → Option ((List (S31)))
  | 0, _, _, _, _, _, _, _ => none
  | k + 1, x0, x1, x2, x3, x9, x11, x12 => if x12 < (x0.length : Int) then (if 0 ≤ x12 then (if (rd_T46 x0 x12).f0 = true then (belfryref11_Views.j4 k x0 x1 x2 x3 x9 x11 x12 true) else ((belfryref11_fits.f k ((rd_T46 x0 x12).f0) ((rd_T46 x0 x12).f1) ((rd_T46 x0 x12).f2) ((rd_T46 x0 x12).f3) ((rd_T46 x0 x12).f4) x2 x3).bind fun t332 => (belfryref11_Views.j4 k x0 x1 x2 x3 x9 x11 x12 (!t332)))) else (none)) else (some x11)
def belfryref11_Views.j4 : Nat → List (S46) → ByteArray → ByteArray → Int → List (S33) → List (S31) → Int → Bool → Option ((List (S31)))
  | 0, _, _, _, _, _, _, _, _ => none
  | k + 1, x0, x1, x2, x3, x9, x11, x12, x86 => if x86 = true then (belfryref11_Views.l1 k x0 x1 x2 x3 x9 x11 (wrap64 (x12 + 1))) else (if 0 ≤ x12 then (if x12 < (x0.length : Int) then ((belfryref04_Both.f k ((rd_T46 x0 x12).f3) x9).bind fun bt334 => (if bt334.2 = 0 then (if ([] : List ByteArray).length + ((rd_T46 x0 x12).f4).length < 8796093022208 then (if x11.length < 2199023255552 then (belfryref11_Views.l1 k x0 x1 x2 x3 x9 (x11 ++ [(⟨x1, bt334.1, (([] : List ByteArray) ++ ((rd_T46 x0 x12).f4))⟩ : S31)]) (wrap64 (x12 + 1))) else (none)) else (none)) else (belfryref11_Views.l1 k x0 x1 x2 x3 x9 x11 (wrap64 (x12 + 1))))) else (none)) else (none))
end
def belfryref11_Views.f (k : Nat) (l0 : List (S46)) (a1 : ByteArray) (a2 : ByteArray) (a3 : Int) : Option ((List (S31))) := if a3 < 1 then (belfryref11_Views.j0 k l0 a1 a2 a3 true) else (belfryref11_Views.j0 k l0 a1 a2 a3 (decide (a3 > 3)))
def belfryref11_Views.T21 : Bool × List (List Nat × List Nat) := (true, [([], []), ([0], [0]), ([], []), ([], []), ([2, 3], [2, 3]), ([4], [4]), ([5], [5]), ([1, 6], [1, 6]), ([0, 1, 2, 3, 4, 5, 6, 7], []), ([8, 7, 7, 0, 1, 2, 3, 4, 5, 6, 7], [7, 8])])
def belfryref11_Views.B21 : List Nat := [0, 1, 0, 0, 12, 28, 60, 127, 255, 511]
theorem belfryref11_Views.tab21 : rtab .any (opsOf Tryz.f13 21) = belfryref11_Views.T21 := by kernel_rfl
theorem belfryref11_Views.bits21 : waitsOk belfryref11_Views.T21.2 belfryref11_Views.B21 = true := by kernel_rfl
set_option maxHeartbeats 8000000 in
set_option maxRecDepth 100000 in
theorem belfryref11_Views.calls (k : Nat) (A0 : Option Addr) (c0 : Nat) (l0 : List (S46)) (a1 : ByteArray) (a2 : ByteArray) (a3 : Int) (r : List (S31)) (w : World) (hr0 : Kd.C k46 w A0 l0.length l0) (hc0 : l0.length ≤ c0) (h : belfryref11_Views.f k l0 a1 a2 a3 = some r) :
  Calls Tryz.prog 13 #[.slice A0 l0.length c0, .string a1, .string a2, .int .i64 a3] w fun e w' => ∃ v0_ : Value, e = .returned (v0_) ∧ Kd.S k31 31 w' w.heap.size (fun _ => True) v0_ r ∧ Below w.heap.size w w' := by
 have hu31 := Tryz.underlying31; have hu46 := Tryz.underlying46; have hu33 := Tryz.underlying33; have HR0 := Aside0.mk hr0; have HC0 := Aside0.mk hc0; clear hr0 hc0; have HB := Aside0.mk (Below.refl w.heap.size w)
 have H : (if a3 < 1 then (belfryref11_Views.j0 k l0 a1 a2 a3 true) else (belfryref11_Views.j0 k l0 a1 a2 a3 (decide (a3 > 3)))) = some r := h
 clear h; have HC5 := Aside0.mk H; clear H
 go_enter Tryz.func13, Tryz.ntmps13
 go_upto_region 1 with (fail)
 go_cut [21] (fun v21 wc => ∃ (kq : Nat) (x21_4 : Bool), v21 = .bool x21_4 ∧ Aside0 (belfryref11_Views.j0 kq l0 a1 a2 a3 x21_4 = some r) ∧ Aside0 (kq ≤ k) ∧ Aside0 (Below w.heap.size w wc))
 case first =>
  have H := HC5.out; clear HC5; by_cases c6 : a3 < 1
  ·
   rw [if_pos c6] at H
   have c6b0 : decide (a3 < 1) = true := decide_eq_true c6
   clear c6
   (first | rw [c6b0] | (simp only [i64_w, i32_w]; rw [c6b0]) | skip)
   have H' := Aside0.mk H; clear H; go_wp2
   go_meet
   case rel => exact ⟨_, (true), sR, H', ⟨by first | omega | exact Nat.le_refl _⟩, ⟨bO⟩⟩
  rw [if_neg c6] at H
  have c6b0 : decide (a3 < 1) = false := decide_eq_false c6
  clear c6
  (first | rw [c6b0] | (simp only [i64_w, i32_w]; rw [c6b0]) | skip)
  have H' := Aside0.mk H; clear H; go_wp2
  go_meet
  case rel => exact ⟨_, (decide (a3 > 3)), sR, H', ⟨by first | omega | exact Nat.le_refl _⟩, ⟨bO⟩⟩
 case rest =>
  clear HC5; (try clear c1); (try clear p2); (try clear c6); (try clear c6b0)
  obtain ⟨kq, x21_4, rfl, HA, HJ4, HB⟩ := hcut
  cases kq with
  | zero => exact absurd HA.out (by simp [belfryref11_Views.j0])
  | succ kj4 =>
   have H := HA.out; clear HA
   simp only [belfryref11_Views.j0] at H
   by_cases c7 : x21_4 = true
   ·
    subst c7
    have H1 : (some ([] : List (S31))) = some r := by rw [if_pos rfl] at H; exact H
    clear H; have H := H1; clear H1
    obtain rfl := Option.some.inj H
    go_wp2; go_ret
    exact ⟨_, eR, by first | exact Kd.S_nil _ _ _ _ _ | exact Kd.N_nil _ _ _ _ _ | exact Kd.V_nil _ _ _ _ _ | exact Kd.Q_nil _ _ _ _ _ | exact Kd.R_nil _ _ _ _ _, bO⟩
   replace c7 := Bool.eq_false_iff.mpr c7
   subst c7
   have H1 : (if a2.toList = a1.toList then (some (([(⟨a1, ([] : List (S33)), ([] : List ByteArray)⟩ : S31)] : List (S31)))) else (belfryref11_Views.l0 kj4 l0 a1 a2 a3 ([] : List (S33)) 0)) = some r := by rw [if_neg (show ¬ (false = true) by decide)] at H; exact H
   clear H; have H := H1; clear H1; by_cases c8 : a2.toList = a1.toList
   ·
    rw [if_pos c8] at H
    have c8b0 : (a2.toList == a1.toList) = true := beq_iff_eq.mpr c8
    have c8b1 : (a2.toList != a1.toList) = false := bne_eq_false_iff_eq.mpr c8
    clear c8
    obtain ⟨y315, hy315⟩ : ∃ y_ : List (S31), y_ = (([(⟨a1, ([] : List (S33)), ([] : List ByteArray)⟩ : S31)] : List (S31))) := ⟨_, rfl⟩
    replace H : (some y315) = some r := by first | (rw [hy315]; with_reducible exact H) | (have H2_ := (Option.bind_some _ _).symm.trans H; rw [hy315]; with_reducible exact H2_) | (have H2_ := (Option.bind_some _ _).symm.trans H; with_reducible exact H2_) | with_reducible exact H | (rw [hy315]; exact H) | exact H
    have Ny315 := Aside0.mk hy315; clear hy315
    obtain rfl := Option.some.inj H
    go_wp2_with (first | ((with_reducible refine gate_dst (N := 27) rfl ?_); refine Kd.S_lit k31 _ 31 ?hg (N := 27) ?hd (xs := ([(⟨a1, ([] : List (S33)), ([] : List ByteArray)⟩ : S31)] : List (S31))) (inner := [.string a1, .slice none 0 0, .slice none 0 0]) (ok := fun _ => True) (okp := fun _ => True) ?hr ?hp (fun _ hk => hk) trivial (Below.refl _ _) (Nat.le_refl _) (by simp) ?_; (case hd => rfl); (case hg => rfl); (case hr => first | (go_simp; done) | (go_simp; rfl)); (case hp => exact (Reps.c3 (show Kd.M k31 _ _ _ (⟨a1, ([] : List (S33)), ([] : List ByteArray)⟩ : S31) [.string a1, .slice none 0 0, .slice none 0 0] from (k31_mkM _ _ _ (⟨a1, ([] : List (S33)), ([] : List ByteArray)⟩ : S31) (Kd.R_nil _ _ _ _ _) (Kd.R_nil _ _ _ _ _))) (Reps.none _ _))); intro v316 w9 ho10 hb hg_ hnew_; clear hg_ hnew_; (first | rw [← Ny315.out] at ho10 | (simp only [Int.reduceToNat] at ho10; rw [← Ny315.out] at ho10)); have n0_ := Aside0.mk (Kd.S_lower ho10 (below_size bO)); have n1_ := Aside0.mk (below_step bO hb); clear HB; have HO317 := n0_; have HB := n1_; clear n0_ n1_; clear hb ho10))
    go_ret
    exact ⟨_, eR, by (with_reducible repeat (first | apply Kd.S_alloc | apply Kd.S_drewN | apply Kd.S_drew)); exact HO317.out, bO⟩
   rw [if_neg c8] at H
   have c8b0 : (a2.toList == a1.toList) = false := beq_eq_false_iff_ne.mpr c8
   have c8b1 : (a2.toList != a1.toList) = true := bne_iff_ne.mpr c8
   have H' := Aside0.mk H; clear H; go_wp2
   go_loopg [9, 10] kj4 (fun kq v9 v10 w' => ∃ (x9_2 : List (S33)) (x10_2 : Int), v10 = .int .i64 x10_2 ∧ Aside0 (belfryref11_Views.l0 kq l0 a1 a2 a3 x9_2 x10_2 = some r) ∧ Aside0 (kq ≤ kj4) ∧ Aside0 (Kd.R k33 33 w' w.heap.size (fun _ => True) v9 x9_2) ∧ Aside0 (Below w.heap.size w w'))
   case atStart => exact ⟨(([] : List (S33))), (0), sR, H', ⟨Nat.le_refl _⟩, ⟨by first | exact Kd.R_nil _ _ _ _ _ | exact Kd.N_nil _ _ _ _ _ | exact Kd.V_nil _ _ _ _ _ | exact Kd.Q_nil _ _ _ _ _ | exact Kd.S_nil _ _ _ _ _⟩, ⟨bO⟩⟩
   case round =>
    clear H'; (try clear c1); (try clear p2); (try clear c3); (try clear c6); (try clear c6b0); (try clear c7); (try clear c8); (try clear c8b0); (try clear c8b1); (try clear p2)
    obtain ⟨x9_2, x10_2, rfl, HA, HK2, HO_9, HB⟩ := hrel
    cases gk with
    | zero => exact absurd HA.out (by simp [belfryref11_Views.l0])
    | succ k2 =>
     have H := HA.out; clear HA
     simp only [belfryref11_Views.l0] at H
     by_cases c11 : x10_2 < (l0.length : Int)
     ·
      rw [if_pos c11] at H
      have c11b0 : decide (x10_2 < (l0.length : Int)) = true := decide_eq_true c11
      clear c11; have HC12 := Aside0.mk H; clear H
      go_upto_region 9 with (fail)
      go_cut [47] (fun v47 wc => ∃ (kq : Nat) (x47_11 : Bool), v47 = .bool x47_11 ∧ Aside0 (belfryref11_Views.j2 kq l0 a1 a2 a3 x9_2 x10_2 x47_11 = some r) ∧ Aside0 (kq ≤ k2) ∧ Aside0 (Kd.R k33 33 wc w.heap.size (fun _ => True) u9 x9_2) ∧ Aside0 (Below w.heap.size w wc))
      case first =>
       have H := HC12.out; clear HC12; by_cases c13 : 0 ≤ x10_2; rotate_left
       · rw [if_neg c13] at H; exact absurd H (by simp)
       rw [if_pos c13] at H
       have c13b0 : decide (0 ≤ x10_2) = true := decide_eq_true c13
       clear c13
       (first | rw [c13b0] | (simp only [i64_w, i32_w]; rw [c13b0]) | skip)
       obtain ⟨bq14, hbq14⟩ : ∃ b_ : Bool, b_ = ((rd_T46 l0 x10_2).f0) := ⟨_, rfl⟩
       replace H : (if bq14 = true then ((belfryref11_fits.f k2 (bq14) ((rd_T46 l0 x10_2).f1) ((rd_T46 l0 x10_2).f2) ((rd_T46 l0 x10_2).f3) ((rd_T46 l0 x10_2).f4) a2 a3).bind fun t320 => (belfryref11_Views.j2 k2 l0 a1 a2 a3 x9_2 x10_2 t320)) else (belfryref11_Views.j2 k2 l0 a1 a2 a3 x9_2 x10_2 false)) = some r := by rw [← hbq14] at H; exact H
       have Nbq14 := Aside0.mk hbq14; clear hbq14; by_cases c15 : bq14 = true; rotate_left
       ·
        replace c15 := Bool.eq_false_iff.mpr c15
        subst c15
        have H1 : (belfryref11_Views.j2 k2 l0 a1 a2 a3 x9_2 x10_2 false) = some r := by rw [if_neg (show ¬ (false = true) by decide)] at H; exact H
        clear H; have H := H1; clear H1; have H' := Aside0.mk H; clear H
        have p318 : 0 ≤ (x10_2 : Int) := of_decide_eq_true asm
        have q318 : x10_2 < (l0.length : Int) := of_decide_eq_true asm
        obtain ⟨ad318, A318_3, c318_3, A318_4, c318_4, e318, hx318_0, hx318_1, hx318_2, hx318_3, hx318_4, hl318_3, hi318_3, hl318_4, hi318_4⟩ := at_T46 HR0.out x10_2 p318 q318
        (try rw [← Nbq14.out] at hx318_0)
        cases e318
        replace hx318_0 := bC HB hx318_0
        replace hx318_1 := bC HB hx318_1
        replace hx318_2 := bC HB hx318_2
        replace hx318_3 := bC HB hx318_3
        replace hx318_4 := bC HB hx318_4
        have HR318_3 := Aside0.mk hi318_3; have HC318_3 := Aside0.mk hl318_3; clear hi318_3 hl318_3; have HR318_4 := Aside0.mk hi318_4; have HC318_4 := Aside0.mk hl318_4; clear hi318_4 hl318_4; replace p318 := eq_true p318; replace q318 := eq_true q318; go_wp2
        go_meet
        case rel => exact ⟨_, (false), sR, H', ⟨by have := HJ4.out; have := HK2.out; first | omega | exact Nat.le_refl _⟩, ⟨by (with_reducible repeat (first | apply Kd.R_alloc | apply Kd.R_drewN | apply Kd.R_drew)); exact HO_9.out⟩, ⟨bO⟩⟩
       subst c15
       have H1 : ((belfryref11_fits.f k2 (true) ((rd_T46 l0 x10_2).f1) ((rd_T46 l0 x10_2).f2) ((rd_T46 l0 x10_2).f3) ((rd_T46 l0 x10_2).f4) a2 a3).bind fun t320 => (belfryref11_Views.j2 k2 l0 a1 a2 a3 x9_2 x10_2 t320)) = some r := by rw [if_pos rfl] at H; exact H
       clear H; have H := H1; clear H1
       replace H := Option.bind_eq_some_iff.mp H
       obtain ⟨t320, A160, H⟩ := H
       replace H : (belfryref11_Views.j2 k2 l0 a1 a2 a3 x9_2 x10_2 t320) = some r := H
       have A16 := Aside0.mk A160; clear A160; have H' := Aside0.mk H; clear H
       have p318 : 0 ≤ (x10_2 : Int) := of_decide_eq_true asm
       have q318 : x10_2 < (l0.length : Int) := of_decide_eq_true asm
       obtain ⟨ad318, A318_3, c318_3, A318_4, c318_4, e318, hx318_0, hx318_1, hx318_2, hx318_3, hx318_4, hl318_3, hi318_3, hl318_4, hi318_4⟩ := at_T46 HR0.out x10_2 p318 q318
       (try rw [← Nbq14.out] at hx318_0)
       cases e318
       replace hx318_0 := bC HB hx318_0
       replace hx318_1 := bC HB hx318_1
       replace hx318_2 := bC HB hx318_2
       replace hx318_3 := bC HB hx318_3
       replace hx318_4 := bC HB hx318_4
       have HR318_3 := Aside0.mk hi318_3; have HC318_3 := Aside0.mk hl318_3; clear hi318_3 hl318_3; have HR318_4 := Aside0.mk hi318_4; have HC318_4 := Aside0.mk hl318_4; clear hi318_4 hl318_4; replace p318 := eq_true p318; replace q318 := eq_true q318
       have p319 : 0 ≤ (x10_2 : Int) := of_decide_eq_true asm
       have q319 : x10_2 < (l0.length : Int) := of_decide_eq_true asm
       obtain ⟨ad319, A319_3, c319_3, A319_4, c319_4, e319, hx319_0, hx319_1, hx319_2, hx319_3, hx319_4, hl319_3, hi319_3, hl319_4, hi319_4⟩ := at_T46 HR0.out x10_2 p319 q319
       (try rw [← Nbq14.out] at hx319_0)
       obtain rfl : ad318 = ad319 := (by injection e319)
       replace hx319_0 := bC HB hx319_0
       replace hx319_1 := bC HB hx319_1
       replace hx319_2 := bC HB hx319_2
       replace hx319_3 := bC HB hx319_3
       replace hx319_4 := bC HB hx319_4
       have HR319_3 := Aside0.mk hi319_3; have HC319_3 := Aside0.mk hl319_3; clear hi319_3 hl319_3; have HR319_4 := Aside0.mk hi319_4; have HC319_4 := Aside0.mk hl319_4; clear hi319_4 hl319_4; replace p319 := eq_true p319; replace q319 := eq_true q319; have ea_ := Option.some.inj (hx318_3.symm.trans hx319_3)
       injection ea_ with ea_ en_ ec_
       subst ea_; subst ec_; clear en_; have ea_ := Option.some.inj (hx318_4.symm.trans hx319_4)
       injection ea_ with ea_ en_ ec_
       subst ea_; subst ec_; clear en_
       go_wp2_with (first | (go_at_call 35; (with_reducible refine (belfryref11_fits.calls k2 true ((rd_T46 l0 x10_2).f1) ((rd_T46 l0 x10_2).f2) _ _ ((rd_T46 l0 x10_2).f3) _ _ ((rd_T46 l0 x10_2).f4) a2 a3 t320 _ ?side1 ?side2 ?side3 ?side4 A16.out).mono ?_); (case side1 => repeat (first | exact (Kd.C_below HR319_3.out HB.out) | (with_reducible refine Kd.C_alloc ?_ _) | (with_reducible refine Kd.C_drewN ?_ _) | (with_reducible refine Kd.C_drew ?_))); (case side2 => exact HC319_3.out); (case side3 => repeat (first | exact (Kd.C_below HR319_4.out HB.out) | (with_reducible refine Kd.C_alloc ?_ _) | (with_reducible refine Kd.C_drewN ?_ _) | (with_reducible refine Kd.C_drew ?_))); (case side4 => exact HC319_4.out); rintro e w17 ⟨rfl, hb⟩; have n0_ := Aside0.mk (Kd.R_below (by (with_reducible repeat (first | apply Kd.R_alloc | apply Kd.R_drewN | apply Kd.R_drew)); exact HO_9.out) hb); have n1_ := Aside0.mk (below_step bO hb); clear HO_9; clear HB; have HO_9 := n0_; have HB := n1_; clear n0_ n1_; (try clear hb); (try clear hb2); (try clear hk); (try clear hi)))
       go_meet
       case rel => exact ⟨_, (t320), sR, H', ⟨by have := HJ4.out; have := HK2.out; first | omega | exact Nat.le_refl _⟩, ⟨by (with_reducible repeat (first | apply Kd.R_alloc | apply Kd.R_drewN | apply Kd.R_drew)); exact HO_9.out⟩, ⟨bO⟩⟩
      case rest =>
       clear HC12; (try clear c1); (try clear q1); (try clear p2); (try clear c3); (try clear p3); (try clear q3); (try clear hx3); (try clear c6); (try clear c6b0); (try clear c7); (try clear c8); (try clear c8b0); (try clear c8b1); (try clear c11); (try clear c11b0); (try clear c13); (try clear c13b0); (try clear q14); (try clear c15); (try clear hx318_0); (try clear hx318_1); (try clear hx318_2); (try clear hx318_3); (try clear hx318_4); (try clear hx319_0); (try clear hx319_1); (try clear hx319_2); (try clear hx319_3); (try clear hx319_4); (try clear p2); (try clear p318)
       (try clear p319); (try clear q318); (try clear q319)
       obtain ⟨kq, x47_11, rfl, HA, HJ11, HO_9, HB⟩ := hcut
       cases kq with
       | zero => exact absurd HA.out (by simp [belfryref11_Views.j2])
       | succ kj11 =>
        have H := HA.out; clear HA
        simp only [belfryref11_Views.j2] at H
        by_cases c18 : x47_11 = true; rotate_left
        ·
         replace c18 := Bool.eq_false_iff.mpr c18
         subst c18
         have H1 : (belfryref11_Views.l0 kj11 l0 a1 a2 a3 x9_2 (wrap64 (x10_2 + 1))) = some r := by rw [if_neg (show ¬ (false = true) by decide)] at H; exact H
         clear H; have H := H1; clear H1; have H' := Aside0.mk H; clear H; go_wp2
         go_roundg kj11
         case measure => have := HJ4.out; have := HK2.out; have := HJ11.out; omega
         case rel => exact ⟨(x9_2), (wrap64 (x10_2 + 1)), sR, H', ⟨by have := HJ4.out; have := HK2.out; have := HJ11.out; omega⟩, ⟨by (with_reducible repeat (first | apply Kd.R_alloc | apply Kd.R_drewN | apply Kd.R_drew)); exact HO_9.out⟩, ⟨bO⟩⟩
        subst c18
        have H1 : (if 0 ≤ x10_2 then (if x10_2 < (l0.length : Int) then (if (((rd_T46 l0 x10_2).f3).length : Int) = 0 then (some ([] : List (S31))) else (if 0 < (((rd_T46 l0 x10_2).f3).length : Int) then ((belfryref11_Other.f ((rd_T33 ((rd_T46 l0 x10_2).f3) 0).f0) ((rd_T33 ((rd_T46 l0 x10_2).f3) 0).f1) ((rd_T33 ((rd_T46 l0 x10_2).f3) 0).f2)).bind fun bt324 => (if x9_2.length < 3518437208883 then (belfryref11_Views.l0 kj11 l0 a1 a2 a3 (x9_2 ++ [(⟨bt324.1, bt324.2.1, bt324.2.2⟩ : S33)]) (wrap64 (x10_2 + 1))) else (none))) else (none))) else (none)) else (none)) = some r := by rw [if_pos rfl] at H; exact H
        clear H; have H := H1; clear H1; by_cases c19 : 0 ≤ x10_2; rotate_left
        · rw [if_neg c19] at H; exact absurd H (by simp)
        rw [if_pos c19] at H
        have c19b0 : decide (0 ≤ x10_2) = true := decide_eq_true c19
        clear c19; by_cases c20 : x10_2 < (l0.length : Int); rotate_left
        · rw [if_neg c20] at H; exact absurd H (by simp)
        rw [if_pos c20] at H
        have c20b0 : decide (x10_2 < (l0.length : Int)) = true := decide_eq_true c20
        clear c20; by_cases c21 : (((rd_T46 l0 x10_2).f3).length : Int) = 0
        ·
         rw [if_pos c21] at H
         have c21b0 : ((((rd_T46 l0 x10_2).f3).length : Int) == 0) = true := beq_iff_eq.mpr c21
         have c21b1 : ((((rd_T46 l0 x10_2).f3).length : Int) != 0) = false := bne_eq_false_iff_eq.mpr c21
         clear c21
         obtain rfl := Option.some.inj H
         have p321 : 0 ≤ (x10_2 : Int) := of_decide_eq_true asm
         have q321 : x10_2 < (l0.length : Int) := of_decide_eq_true asm
         obtain ⟨ad321, A321_3, c321_3, A321_4, c321_4, e321, hx321_0, hx321_1, hx321_2, hx321_3, hx321_4, hl321_3, hi321_3, hl321_4, hi321_4⟩ := at_T46 HR0.out x10_2 p321 q321
         cases e321
         replace hx321_0 := bC HB hx321_0
         replace hx321_1 := bC HB hx321_1
         replace hx321_2 := bC HB hx321_2
         replace hx321_3 := bC HB hx321_3
         replace hx321_4 := bC HB hx321_4
         have HR321_3 := Aside0.mk hi321_3; have HC321_3 := Aside0.mk hl321_3; clear hi321_3 hl321_3; have HR321_4 := Aside0.mk hi321_4; have HC321_4 := Aside0.mk hl321_4; clear hi321_4 hl321_4; replace p321 := eq_true p321; replace q321 := eq_true q321; go_wp2; go_ret
         exact ⟨_, eR, by first | exact Kd.S_nil _ _ _ _ _ | exact Kd.N_nil _ _ _ _ _ | exact Kd.V_nil _ _ _ _ _ | exact Kd.Q_nil _ _ _ _ _ | exact Kd.R_nil _ _ _ _ _, bO⟩
        rw [if_neg c21] at H
        have c21b0 : ((((rd_T46 l0 x10_2).f3).length : Int) == 0) = false := beq_eq_false_iff_ne.mpr c21
        have c21b1 : ((((rd_T46 l0 x10_2).f3).length : Int) != 0) = true := bne_iff_ne.mpr c21
        have c21b2 : ¬ (((rd_T46 l0 x10_2).f3) = []) := fun h_ => c21 (by rw [h_]; rfl)
        by_cases c22 : 0 < (((rd_T46 l0 x10_2).f3).length : Int); rotate_left
        · rw [if_neg c22] at H; exact absurd H (by simp)
        rw [if_pos c22] at H
        have c22b0 : decide (0 < (((rd_T46 l0 x10_2).f3).length : Int)) = true := decide_eq_true c22
        have c22b1 : decide (0 < ((rd_T46 l0 x10_2).f3).length) = true := decide_eq_true (by omega)
        clear c22
        replace H := Option.bind_eq_some_iff.mp H
        obtain ⟨⟨t324, t325, t326⟩, A230, H⟩ := H
        replace H : (if x9_2.length < 3518437208883 then (belfryref11_Views.l0 kj11 l0 a1 a2 a3 (x9_2 ++ [(⟨t324, t325, t326⟩ : S33)]) (wrap64 (x10_2 + 1))) else (none)) = some r := H
        have A23 := Aside0.mk A230; clear A230; by_cases c24 : x9_2.length < 3518437208883; rotate_left
        · rw [if_neg c24] at H; exact absurd H (by simp)
        rw [if_pos c24] at H; have LMc24 := Aside0.mk c24; clear c24
        obtain ⟨y327, hy327⟩ : ∃ y_ : List (S33), y_ = (x9_2 ++ [(⟨t324, t325, t326⟩ : S33)]) := ⟨_, rfl⟩
        replace H : (belfryref11_Views.l0 kj11 l0 a1 a2 a3 y327 (wrap64 (x10_2 + 1))) = some r := by first | (rw [hy327]; with_reducible exact H) | (have H2_ := (Option.bind_some _ _).symm.trans H; rw [hy327]; with_reducible exact H2_) | (have H2_ := (Option.bind_some _ _).symm.trans H; with_reducible exact H2_) | with_reducible exact H | (rw [hy327]; exact H) | exact H
        have Ny327 := Aside0.mk hy327; clear hy327; have H' := Aside0.mk H; clear H
        have p321 : 0 ≤ (x10_2 : Int) := of_decide_eq_true asm
        have q321 : x10_2 < (l0.length : Int) := of_decide_eq_true asm
        obtain ⟨ad321, A321_3, c321_3, A321_4, c321_4, e321, hx321_0, hx321_1, hx321_2, hx321_3, hx321_4, hl321_3, hi321_3, hl321_4, hi321_4⟩ := at_T46 HR0.out x10_2 p321 q321
        cases e321
        replace hx321_0 := bC HB hx321_0
        replace hx321_1 := bC HB hx321_1
        replace hx321_2 := bC HB hx321_2
        replace hx321_3 := bC HB hx321_3
        replace hx321_4 := bC HB hx321_4
        have HR321_3 := Aside0.mk hi321_3; have HC321_3 := Aside0.mk hl321_3; clear hi321_3 hl321_3; have HR321_4 := Aside0.mk hi321_4; have HC321_4 := Aside0.mk hl321_4; clear hi321_4 hl321_4; replace p321 := eq_true p321; replace q321 := eq_true q321
        have p322 : 0 ≤ (x10_2 : Int) := of_decide_eq_true asm
        have q322 : x10_2 < (l0.length : Int) := of_decide_eq_true asm
        obtain ⟨ad322, A322_3, c322_3, A322_4, c322_4, e322, hx322_0, hx322_1, hx322_2, hx322_3, hx322_4, hl322_3, hi322_3, hl322_4, hi322_4⟩ := at_T46 HR0.out x10_2 p322 q322
        obtain rfl : ad321 = ad322 := (by injection e322)
        replace hx322_0 := bC HB hx322_0
        replace hx322_1 := bC HB hx322_1
        replace hx322_2 := bC HB hx322_2
        replace hx322_3 := bC HB hx322_3
        replace hx322_4 := bC HB hx322_4
        have HR322_3 := Aside0.mk hi322_3; have HC322_3 := Aside0.mk hl322_3; clear hi322_3 hl322_3; have HR322_4 := Aside0.mk hi322_4; have HC322_4 := Aside0.mk hl322_4; clear hi322_4 hl322_4; replace p322 := eq_true p322; replace q322 := eq_true q322; have ea_ := Option.some.inj (hx321_3.symm.trans hx322_3)
        injection ea_ with ea_ en_ ec_
        subst ea_; subst ec_; clear en_; have ea_ := Option.some.inj (hx321_4.symm.trans hx322_4)
        injection ea_ with ea_ en_ ec_
        subst ea_; subst ec_; clear en_
        have p323 : 0 ≤ (0 : Int) := (by omega)
        have q323 : 0 < (((rd_T46 l0 x10_2).f3).length : Int) := of_decide_eq_true asm
        obtain ⟨ad323, e323, hx323_0, hx323_1, hx323_2⟩ := at_T33 HR322_3.out 0 p323 q323
        cases e323
        have qi323 : (0 < ((rd_T46 l0 x10_2).f3).length) = True := eq_true (by omega)
        (try rw [show ((0 : Int)).toNat = 0 from rfl] at hx323_0)
        (try rw [show 0 * 3 = 0 from rfl] at hx323_0)
        (try rw [Addr.add_zero'] at hx323_0)
        (try rw [show ((0 : Int)).toNat = 0 from rfl] at hx323_1)
        (try rw [show 0 * 3 = 0 from rfl] at hx323_1)
        (try rw [Addr.add_zero'] at hx323_1)
        (try rw [show ((0 : Int)).toNat = 0 from rfl] at hx323_2)
        (try rw [show 0 * 3 = 0 from rfl] at hx323_2)
        (try rw [Addr.add_zero'] at hx323_2)
        replace hx323_0 := bC HB hx323_0
        replace hx323_1 := bC HB hx323_1
        replace hx323_2 := bC HB hx323_2
        replace p323 := eq_true p323; replace q323 := eq_true q323
        go_wp2_with (first | ((with_reducible refine gate_callee (f := 36) rfl ?_); refine goesL_ (some 63) rfl rfl Tryz.func36 (by kernel_rfl) rfl #[.agg #[.int .i64 ((rd_T33 ((rd_T46 l0 x10_2).f3) 0).f0), .string ((rd_T33 ((rd_T46 l0 x10_2).f3) 0).f1), .string ((rd_T33 ((rd_T46 l0 x10_2).f3) 0).f2)]] rfl lR ?_; (with_reducible refine (belfryref11_Other.calls ((rd_T33 ((rd_T46 l0 x10_2).f3) 0).f0) ((rd_T33 ((rd_T46 l0 x10_2).f3) 0).f1) ((rd_T33 ((rd_T46 l0 x10_2).f3) 0).f2) t324 t325 t326 _ A23.out).mono ?_); rintro e w25 ⟨rfl, hb⟩; refine ⟨_, rfl, ?_⟩; have n0_ := Aside0.mk (Kd.R_below (by (with_reducible repeat (first | apply Kd.R_alloc | apply Kd.R_drewN | apply Kd.R_drew)); exact HO_9.out) hb); have n1_ := Aside0.mk (below_step bO hb); clear HO_9; clear HB; have HO_9 := n0_; have HB := n1_; clear n0_ n1_; (try clear hb); (try clear hb2); (try clear hk); (try clear hi)) | ((with_reducible refine gate_builtin (b := .append) (xs := #[.tmp 55, .tmp 64]) rfl ?_); at_builtin; refine Kd.R_append k33 (w0 := w) w.heap.size rfl (.tmp 55) (.tmp 64) 28 33 (.agg #[(.int .i64 0), (.string ⟨#[]⟩), (.string ⟨#[]⟩)]) 40 rfl Tryz.underlying28 info33 rfl (by decide) (by omega) u9 x9_2 (⟨t324, t325, t326⟩ : S33) [.int .i64 t324, .string t325, .string t326] (fun _ => True) (fun _ => False) rfl rfl ?aP (fun _ hk => hk.elim) ?aF ?aO ?aB ?aS ?aL ?_; (case aP => exact k33_mkM _ _ _ (⟨t324, t325, t326⟩ : S33)); (case aB => exact bO); (case aF => exact (fun _ _ => trivial)); (case aO => exact (by (with_reducible repeat (first | apply Kd.R_alloc | apply Kd.R_drewN | apply Kd.R_drew)); exact HO_9.out)); (case aS => exact (below_size bO)); (case aL => have := LMc24.out; omega); intro v328 w26 ho hb hg hat; rw [← Ny327.out] at ho; have n0_ := Aside0.mk (hb); have n1_ := Aside0.mk (ho); clear HB; clear HO_9; have HB := n0_; have HO329 := n1_; clear n0_ n1_; clear ho hb hg hat))
        go_roundg kj11
        case measure => have := HJ4.out; have := HK2.out; have := HJ11.out; omega
        case rel => exact ⟨(y327), (wrap64 (x10_2 + 1)), sR, H', ⟨by have := HJ4.out; have := HK2.out; have := HJ11.out; omega⟩, ⟨by (with_reducible repeat (first | apply Kd.R_alloc | apply Kd.R_drewN | apply Kd.R_drew)); exact HO329.out⟩, ⟨bO⟩⟩
     rw [if_neg c11] at H
     have c11b0 : decide (x10_2 < (l0.length : Int)) = false := decide_eq_false c11
     clear c11; have H' := Aside0.mk H; clear H; go_wp2
     go_loopg [11, 12] k2 (fun kq v11 v12 w' => ∃ (x11_3 : List (S31)) (x12_3 : Int), v12 = .int .i64 x12_3 ∧ Aside0 (belfryref11_Views.l1 kq l0 a1 a2 a3 x9_2 x11_3 x12_3 = some r) ∧ Aside0 (kq ≤ k2) ∧ Aside0 (Kd.R k33 33 w' w.heap.size (fun _ => True) u9 x9_2) ∧ Aside0 (Kd.S k31 31 w' w.heap.size (fun k_ => some k_ ≠ (u9 : Value).ownBlock) v11 x11_3) ∧ Aside0 (Below w.heap.size w w'))
     case atStart => exact ⟨(([] : List (S31))), (0), sR, H', ⟨Nat.le_refl _⟩, ⟨by (with_reducible repeat (first | apply Kd.R_alloc | apply Kd.R_drewN | apply Kd.R_drew)); exact HO_9.out⟩, ⟨by first | exact Kd.S_nil _ _ _ _ _ | exact Kd.N_nil _ _ _ _ _ | exact Kd.V_nil _ _ _ _ _ | exact Kd.Q_nil _ _ _ _ _ | exact Kd.R_nil _ _ _ _ _⟩, ⟨bO⟩⟩
     case round =>
      clear H'; (try clear c1); (try clear q1); (try clear c2); (try clear p2); (try clear c3); (try clear p3); (try clear q3); (try clear hx3); (try clear qi3); (try clear c6); (try clear c6b0); (try clear p6); (try clear c7); (try clear c8); (try clear c8b0); (try clear c8b1); (try clear c11); (try clear c11b0); (try clear c13); (try clear c13b0); (try clear q14); (try clear c15); (try clear c18); (try clear c19); (try clear c19b0); (try clear c20); (try clear c20b0); (try clear c21); (try clear c21b0); (try clear c21b1); (try clear c21b2); (try clear c22); (try clear c22b0)
      (try clear c22b1); (try clear c24); (try clear hx318_0); (try clear hx318_1); (try clear hx318_2); (try clear hx318_3); (try clear hx318_4); (try clear hx319_0); (try clear hx319_1); (try clear hx319_2); (try clear hx319_3); (try clear hx319_4); (try clear hx321_0); (try clear hx321_1); (try clear hx321_2); (try clear hx321_3); (try clear hx321_4); (try clear hx322_0); (try clear hx322_1); (try clear hx322_2); (try clear hx322_3); (try clear hx322_4); (try clear hx323_0); (try clear hx323_1); (try clear hx323_2); (try clear p2); (try clear p3); (try clear p318); (try clear p319)
      (try clear p321); (try clear p322); (try clear p323); (try clear q1); (try clear q14); (try clear q3); (try clear q318); (try clear q319); (try clear q321); (try clear q322); (try clear q323)
      obtain ⟨x11_3, x12_3, rfl, HA, HK3, HO_9, HO_11, HB⟩ := hrel
      cases gk with
      | zero => exact absurd HA.out (by simp [belfryref11_Views.l1])
      | succ k3 =>
       have H := HA.out; clear HA
       simp only [belfryref11_Views.l1] at H
       by_cases c27 : x12_3 < (l0.length : Int); rotate_left
       ·
        rw [if_neg c27] at H
        have c27b0 : decide (x12_3 < (l0.length : Int)) = false := decide_eq_false c27
        clear c27
        obtain rfl := Option.some.inj H
        go_wp2; go_ret
        exact ⟨_, eR, by (with_reducible repeat (first | apply Kd.S_alloc | apply Kd.S_drewN | apply Kd.S_drew)); exact Kd.S_mono HO_11.out (fun _ hk => trivial), bO⟩
       rw [if_pos c27] at H
       have c27b0 : decide (x12_3 < (l0.length : Int)) = true := decide_eq_true c27
       clear c27; have HC28 := Aside0.mk H; clear H
       go_upto_region 17 with (fail)
       go_cut [86] (fun v86 wc => ∃ (kq : Nat) (x86_27 : Bool), v86 = .bool x86_27 ∧ Aside0 (belfryref11_Views.j4 kq l0 a1 a2 a3 x9_2 x11_3 x12_3 x86_27 = some r) ∧ Aside0 (kq ≤ k3) ∧ Aside0 (Kd.R k33 33 wc w.heap.size (fun _ => True) u9 x9_2) ∧ Aside0 (Kd.S k31 31 wc w.heap.size (fun k_ => some k_ ≠ (u9 : Value).ownBlock) u11 x11_3) ∧ Aside0 (Below w.heap.size w wc))
       case first =>
        have H := HC28.out; clear HC28; by_cases c29 : 0 ≤ x12_3; rotate_left
        · rw [if_neg c29] at H; exact absurd H (by simp)
        rw [if_pos c29] at H
        have c29b0 : decide (0 ≤ x12_3) = true := decide_eq_true c29
        clear c29
        (first | rw [c29b0] | (simp only [i64_w, i32_w]; rw [c29b0]) | skip)
        obtain ⟨bq30, hbq30⟩ : ∃ b_ : Bool, b_ = ((rd_T46 l0 x12_3).f0) := ⟨_, rfl⟩
        replace H : (if bq30 = true then (belfryref11_Views.j4 k3 l0 a1 a2 a3 x9_2 x11_3 x12_3 true) else ((belfryref11_fits.f k3 (bq30) ((rd_T46 l0 x12_3).f1) ((rd_T46 l0 x12_3).f2) ((rd_T46 l0 x12_3).f3) ((rd_T46 l0 x12_3).f4) a2 a3).bind fun t332 => (belfryref11_Views.j4 k3 l0 a1 a2 a3 x9_2 x11_3 x12_3 (!t332)))) = some r := by rw [← hbq30] at H; exact H
        have Nbq30 := Aside0.mk hbq30; clear hbq30; by_cases c31 : bq30 = true
        ·
         subst c31
         have H1 : (belfryref11_Views.j4 k3 l0 a1 a2 a3 x9_2 x11_3 x12_3 true) = some r := by rw [if_pos rfl] at H; exact H
         clear H; have H := H1; clear H1; have H' := Aside0.mk H; clear H
         have p330 : 0 ≤ (x12_3 : Int) := of_decide_eq_true asm
         have q330 : x12_3 < (l0.length : Int) := of_decide_eq_true asm
         obtain ⟨ad330, A330_3, c330_3, A330_4, c330_4, e330, hx330_0, hx330_1, hx330_2, hx330_3, hx330_4, hl330_3, hi330_3, hl330_4, hi330_4⟩ := at_T46 HR0.out x12_3 p330 q330
         (try rw [← Nbq30.out] at hx330_0)
         cases e330
         replace hx330_0 := bC HB hx330_0
         replace hx330_1 := bC HB hx330_1
         replace hx330_2 := bC HB hx330_2
         replace hx330_3 := bC HB hx330_3
         replace hx330_4 := bC HB hx330_4
         have HR330_3 := Aside0.mk hi330_3; have HC330_3 := Aside0.mk hl330_3; clear hi330_3 hl330_3; have HR330_4 := Aside0.mk hi330_4; have HC330_4 := Aside0.mk hl330_4; clear hi330_4 hl330_4; replace p330 := eq_true p330; replace q330 := eq_true q330; go_wp2
         go_meet
         case rel => exact ⟨_, (true), sR, H', ⟨by have := HJ4.out; have := HK2.out; have := HK3.out; first | omega | exact Nat.le_refl _⟩, ⟨by (with_reducible repeat (first | apply Kd.R_alloc | apply Kd.R_drewN | apply Kd.R_drew)); exact HO_9.out⟩, ⟨by (with_reducible repeat (first | apply Kd.S_alloc | apply Kd.S_drewN | apply Kd.S_drew)); exact HO_11.out⟩, ⟨bO⟩⟩
        replace c31 := Bool.eq_false_iff.mpr c31
        subst c31
        have H1 : ((belfryref11_fits.f k3 (false) ((rd_T46 l0 x12_3).f1) ((rd_T46 l0 x12_3).f2) ((rd_T46 l0 x12_3).f3) ((rd_T46 l0 x12_3).f4) a2 a3).bind fun t332 => (belfryref11_Views.j4 k3 l0 a1 a2 a3 x9_2 x11_3 x12_3 (!t332))) = some r := by rw [if_neg (show ¬ (false = true) by decide)] at H; exact H
        clear H; have H := H1; clear H1
        replace H := Option.bind_eq_some_iff.mp H
        obtain ⟨t332, A320, H⟩ := H
        replace H : (belfryref11_Views.j4 k3 l0 a1 a2 a3 x9_2 x11_3 x12_3 (!t332)) = some r := H
        have A32 := Aside0.mk A320; clear A320; have H' := Aside0.mk H; clear H
        have p330 : 0 ≤ (x12_3 : Int) := of_decide_eq_true asm
        have q330 : x12_3 < (l0.length : Int) := of_decide_eq_true asm
        obtain ⟨ad330, A330_3, c330_3, A330_4, c330_4, e330, hx330_0, hx330_1, hx330_2, hx330_3, hx330_4, hl330_3, hi330_3, hl330_4, hi330_4⟩ := at_T46 HR0.out x12_3 p330 q330
        (try rw [← Nbq30.out] at hx330_0)
        cases e330
        replace hx330_0 := bC HB hx330_0
        replace hx330_1 := bC HB hx330_1
        replace hx330_2 := bC HB hx330_2
        replace hx330_3 := bC HB hx330_3
        replace hx330_4 := bC HB hx330_4
        have HR330_3 := Aside0.mk hi330_3; have HC330_3 := Aside0.mk hl330_3; clear hi330_3 hl330_3; have HR330_4 := Aside0.mk hi330_4; have HC330_4 := Aside0.mk hl330_4; clear hi330_4 hl330_4; replace p330 := eq_true p330; replace q330 := eq_true q330
        have p331 : 0 ≤ (x12_3 : Int) := of_decide_eq_true asm
        have q331 : x12_3 < (l0.length : Int) := of_decide_eq_true asm
        obtain ⟨ad331, A331_3, c331_3, A331_4, c331_4, e331, hx331_0, hx331_1, hx331_2, hx331_3, hx331_4, hl331_3, hi331_3, hl331_4, hi331_4⟩ := at_T46 HR0.out x12_3 p331 q331
        (try rw [← Nbq30.out] at hx331_0)
        obtain rfl : ad330 = ad331 := (by injection e331)
        replace hx331_0 := bC HB hx331_0
        replace hx331_1 := bC HB hx331_1
        replace hx331_2 := bC HB hx331_2
        replace hx331_3 := bC HB hx331_3
        replace hx331_4 := bC HB hx331_4
        have HR331_3 := Aside0.mk hi331_3; have HC331_3 := Aside0.mk hl331_3; clear hi331_3 hl331_3; have HR331_4 := Aside0.mk hi331_4; have HC331_4 := Aside0.mk hl331_4; clear hi331_4 hl331_4; replace p331 := eq_true p331; replace q331 := eq_true q331; have ea_ := Option.some.inj (hx330_3.symm.trans hx331_3)
        injection ea_ with ea_ en_ ec_
        subst ea_; subst ec_; clear en_; have ea_ := Option.some.inj (hx330_4.symm.trans hx331_4)
        injection ea_ with ea_ en_ ec_
        subst ea_; subst ec_; clear en_
        go_wp2_with (first | (go_at_call 35; (with_reducible refine (belfryref11_fits.calls k3 false ((rd_T46 l0 x12_3).f1) ((rd_T46 l0 x12_3).f2) _ _ ((rd_T46 l0 x12_3).f3) _ _ ((rd_T46 l0 x12_3).f4) a2 a3 t332 _ ?side1 ?side2 ?side3 ?side4 A32.out).mono ?_); (case side1 => repeat (first | exact (Kd.C_below HR331_3.out HB.out) | (with_reducible refine Kd.C_alloc ?_ _) | (with_reducible refine Kd.C_drewN ?_ _) | (with_reducible refine Kd.C_drew ?_))); (case side2 => exact HC331_3.out); (case side3 => repeat (first | exact (Kd.C_below HR331_4.out HB.out) | (with_reducible refine Kd.C_alloc ?_ _) | (with_reducible refine Kd.C_drewN ?_ _) | (with_reducible refine Kd.C_drew ?_))); (case side4 => exact HC331_4.out); rintro e w33 ⟨rfl, hb⟩; have n0_ := Aside0.mk (Kd.R_below (by (with_reducible repeat (first | apply Kd.R_alloc | apply Kd.R_drewN | apply Kd.R_drew)); exact HO_9.out) hb); have n1_ := Aside0.mk (Kd.S_below (by (with_reducible repeat (first | apply Kd.S_alloc | apply Kd.S_drewN | apply Kd.S_drew)); exact HO_11.out) hb); have n2_ := Aside0.mk (below_step bO hb); clear HO_9; clear HO_11; clear HB; have HO_9 := n0_; have HO_11 := n1_; have HB := n2_; clear n0_ n1_ n2_; (try clear hb); (try clear hb2); (try clear hk); (try clear hi)))
        go_meet
        case rel => exact ⟨_, (!t332), sR, H', ⟨by have := HJ4.out; have := HK2.out; have := HK3.out; first | omega | exact Nat.le_refl _⟩, ⟨by (with_reducible repeat (first | apply Kd.R_alloc | apply Kd.R_drewN | apply Kd.R_drew)); exact HO_9.out⟩, ⟨by (with_reducible repeat (first | apply Kd.S_alloc | apply Kd.S_drewN | apply Kd.S_drew)); exact HO_11.out⟩, ⟨bO⟩⟩
       case rest =>
        clear HC28; (try clear c1); (try clear q1); (try clear c2); (try clear p2); (try clear c3); (try clear p3); (try clear q3); (try clear hx3); (try clear qi3); (try clear c6); (try clear c6b0); (try clear p6); (try clear c7); (try clear c8); (try clear c8b0); (try clear c8b1); (try clear c11); (try clear c11b0); (try clear c13); (try clear c13b0); (try clear q14); (try clear c15); (try clear c18); (try clear c19); (try clear c19b0); (try clear c20); (try clear c20b0); (try clear c21); (try clear c21b0); (try clear c21b1); (try clear c21b2); (try clear c22); (try clear c22b0)
        (try clear c22b1); (try clear c24); (try clear c27); (try clear c27b0); (try clear c29); (try clear c29b0); (try clear q30); (try clear c31); (try clear p31); (try clear q31); (try clear hx31); (try clear c32); (try clear p32); (try clear q32); (try clear hx32); (try clear qi32); (try clear c33); (try clear p33); (try clear q33); (try clear hx33); (try clear hx318_0); (try clear hx318_1); (try clear hx318_2); (try clear hx318_3); (try clear hx318_4); (try clear hx319_0); (try clear hx319_1); (try clear hx319_2); (try clear hx319_3); (try clear hx319_4); (try clear hx321_0)
        (try clear hx321_1); (try clear hx321_2); (try clear hx321_3); (try clear hx321_4); (try clear hx322_0); (try clear hx322_1); (try clear hx322_2); (try clear hx322_3); (try clear hx322_4); (try clear hx323_0); (try clear hx323_1); (try clear hx323_2); (try clear hx330_0); (try clear hx330_1); (try clear hx330_2); (try clear hx330_3); (try clear hx330_4); (try clear hx331_0); (try clear hx331_1); (try clear hx331_2); (try clear hx331_3); (try clear hx331_4); (try clear p2); (try clear p3); (try clear p318); (try clear p319); (try clear p321); (try clear p322); (try clear p323)
        (try clear p330); (try clear p331); (try clear p6); (try clear q1); (try clear q14); (try clear q3); (try clear q318); (try clear q319); (try clear q321); (try clear q322); (try clear q323); (try clear q330); (try clear q331)
        obtain ⟨kq, x86_27, rfl, HA, HJ27, HO_9, HO_11, HB⟩ := hcut
        cases kq with
        | zero => exact absurd HA.out (by simp [belfryref11_Views.j4])
        | succ kj27 =>
         have H := HA.out; clear HA
         simp only [belfryref11_Views.j4] at H
         by_cases c34 : x86_27 = true
         ·
          subst c34
          have H1 : (belfryref11_Views.l1 kj27 l0 a1 a2 a3 x9_2 x11_3 (wrap64 (x12_3 + 1))) = some r := by rw [if_pos rfl] at H; exact H
          clear H; have H := H1; clear H1; have H' := Aside0.mk H; clear H; go_wp2
          go_roundg kj27
          case measure => have := HJ4.out; have := HK2.out; have := HK3.out; have := HJ27.out; omega
          case rel => exact ⟨(x11_3), (wrap64 (x12_3 + 1)), sR, H', ⟨by have := HJ4.out; have := HK2.out; have := HK3.out; have := HJ27.out; omega⟩, ⟨by (with_reducible repeat (first | apply Kd.R_alloc | apply Kd.R_drewN | apply Kd.R_drew)); exact HO_9.out⟩, ⟨by (with_reducible repeat (first | apply Kd.S_alloc | apply Kd.S_drewN | apply Kd.S_drew)); exact HO_11.out⟩, ⟨bO⟩⟩
         replace c34 := Bool.eq_false_iff.mpr c34
         subst c34
         have H1 : (if 0 ≤ x12_3 then (if x12_3 < (l0.length : Int) then ((belfryref04_Both.f kj27 ((rd_T46 l0 x12_3).f3) x9_2).bind fun bt334 => (if bt334.2 = 0 then (if ([] : List ByteArray).length + ((rd_T46 l0 x12_3).f4).length < 8796093022208 then (if x11_3.length < 2199023255552 then (belfryref11_Views.l1 kj27 l0 a1 a2 a3 x9_2 (x11_3 ++ [(⟨a1, bt334.1, (([] : List ByteArray) ++ ((rd_T46 l0 x12_3).f4))⟩ : S31)]) (wrap64 (x12_3 + 1))) else (none)) else (none)) else (belfryref11_Views.l1 kj27 l0 a1 a2 a3 x9_2 x11_3 (wrap64 (x12_3 + 1))))) else (none)) else (none)) = some r := by rw [if_neg (show ¬ (false = true) by decide)] at H; exact H
         clear H; have H := H1; clear H1; by_cases c35 : 0 ≤ x12_3; rotate_left
         · rw [if_neg c35] at H; exact absurd H (by simp)
         rw [if_pos c35] at H
         have c35b0 : decide (0 ≤ x12_3) = true := decide_eq_true c35
         clear c35; by_cases c36 : x12_3 < (l0.length : Int); rotate_left
         · rw [if_neg c36] at H; exact absurd H (by simp)
         rw [if_pos c36] at H
         have c36b0 : decide (x12_3 < (l0.length : Int)) = true := decide_eq_true c36
         clear c36
         replace H := Option.bind_eq_some_iff.mp H
         obtain ⟨⟨t334, t335⟩, A370, H⟩ := H
         replace H : (if t335 = 0 then (if ([] : List ByteArray).length + ((rd_T46 l0 x12_3).f4).length < 8796093022208 then (if x11_3.length < 2199023255552 then (belfryref11_Views.l1 kj27 l0 a1 a2 a3 x9_2 (x11_3 ++ [(⟨a1, t334, (([] : List ByteArray) ++ ((rd_T46 l0 x12_3).f4))⟩ : S31)]) (wrap64 (x12_3 + 1))) else (none)) else (none)) else (belfryref11_Views.l1 kj27 l0 a1 a2 a3 x9_2 x11_3 (wrap64 (x12_3 + 1)))) = some r := H
         have A37 := Aside0.mk A370; clear A370; by_cases c38 : t335 = 0; rotate_left
         ·
          rw [if_neg c38] at H
          have c38b0 : (t335 == 0) = false := beq_eq_false_iff_ne.mpr c38
          have c38b1 : (t335 != 0) = true := bne_iff_ne.mpr c38
          have H' := Aside0.mk H; clear H
          have p333 : 0 ≤ (x12_3 : Int) := of_decide_eq_true asm
          have q333 : x12_3 < (l0.length : Int) := of_decide_eq_true asm
          obtain ⟨ad333, A333_3, c333_3, A333_4, c333_4, e333, hx333_0, hx333_1, hx333_2, hx333_3, hx333_4, hl333_3, hi333_3, hl333_4, hi333_4⟩ := at_T46 HR0.out x12_3 p333 q333
          cases e333
          replace hx333_0 := bC HB hx333_0
          replace hx333_1 := bC HB hx333_1
          replace hx333_2 := bC HB hx333_2
          replace hx333_3 := bC HB hx333_3
          replace hx333_4 := bC HB hx333_4
          have HR333_3 := Aside0.mk hi333_3; have HC333_3 := Aside0.mk hl333_3; clear hi333_3 hl333_3; have HR333_4 := Aside0.mk hi333_4; have HC333_4 := Aside0.mk hl333_4; clear hi333_4 hl333_4; replace p333 := eq_true p333; replace q333 := eq_true q333
          obtain ⟨Ao54, co54, eo54⟩ := Kd.R_slice HO_9.out
          subst eo54
          go_wp2_with (first | ((with_reducible refine gate_callee (f := 37) rfl ?_); refine goesL_ (some 94) rfl rfl Tryz.func37 (by kernel_rfl) rfl #[.slice A333_3 ((rd_T46 l0 x12_3).f3).length c333_3, .slice Ao54 x9_2.length co54] rfl lR ?_; (with_reducible refine (belfryref04_Both.calls kj27 _ _ ((rd_T46 l0 x12_3).f3) _ _ x9_2 t334 t335 _ ?side1 ?side2 ?side3 ?side4 A37.out).mono ?_); (case side1 => repeat (first | exact (Kd.C_below HR333_3.out HB.out) | (with_reducible refine Kd.C_alloc ?_ _) | (with_reducible refine Kd.C_drewN ?_ _) | (with_reducible refine Kd.C_drew ?_))); (case side2 => exact HC333_3.out); (case side3 => repeat (first | exact (Kd.R_reads' HO_9.out).2.2 | (with_reducible refine Kd.C_alloc ?_ _) | (with_reducible refine Kd.C_drewN ?_ _) | (with_reducible refine Kd.C_drew ?_))); (case side4 => exact (Kd.R_reads' HO_9.out).2.1); rintro e w55 ⟨v336, rfl, ho0, hb⟩; refine ⟨_, rfl, ?_⟩; have n0_ := Aside0.mk (Kd.R_elder' (by (with_reducible repeat (first | apply Kd.R_alloc | apply Kd.R_drewN | apply Kd.R_drew)); exact HO_9.out) (Kd.R_base ho0) hb); have n1_ := Aside0.mk (Kd.S_elder' (by (with_reducible repeat (first | apply Kd.S_alloc | apply Kd.S_drewN | apply Kd.S_drew)); exact HO_11.out) (Kd.R_base ho0) hb); have n2_ := Aside0.mk (Kd.R_lower (Kd.R_new' ho0 (Kd.R_lt (by (with_reducible repeat (first | apply Kd.R_alloc | apply Kd.R_drewN | apply Kd.R_drew)); exact HO_9.out))) (below_size bO)); have n3_ := Aside0.mk (below_step bO hb); clear HO_9; clear HO_11; clear HB; have HO_9 := n0_; have HO_11 := n1_; have HO337 := n2_; have HB := n3_; clear n0_ n1_ n2_ n3_; (try clear hb); (try clear hb2); (try clear hk); (try clear hi); (try clear ho0)))
          go_roundg kj27
          case measure => have := HJ4.out; have := HK2.out; have := HK3.out; have := HJ27.out; omega
          case rel => exact ⟨(x11_3), (wrap64 (x12_3 + 1)), sR, H', ⟨by have := HJ4.out; have := HK2.out; have := HK3.out; have := HJ27.out; omega⟩, ⟨by (with_reducible repeat (first | apply Kd.R_alloc | apply Kd.R_drewN | apply Kd.R_drew)); exact Kd.R_mono HO_9.out (fun _ hk => trivial)⟩, ⟨by (with_reducible repeat (first | apply Kd.S_alloc | apply Kd.S_drewN | apply Kd.S_drew)); exact Kd.S_mono HO_11.out (fun _ hk => hk.1)⟩, ⟨bO⟩⟩
         rw [if_pos c38] at H
         have c38b0 : (t335 == 0) = true := beq_iff_eq.mpr c38
         have c38b1 : (t335 != 0) = false := bne_eq_false_iff_eq.mpr c38
         clear c38; by_cases c39 : ([] : List ByteArray).length + ((rd_T46 l0 x12_3).f4).length < 8796093022208; rotate_left
         · rw [if_neg c39] at H; exact absurd H (by simp)
         rw [if_pos c39] at H; have LMc39 := Aside0.mk c39; clear c39
         obtain ⟨y340, hy340⟩ : ∃ y_ : List ByteArray, y_ = (([] : List ByteArray) ++ ((rd_T46 l0 x12_3).f4)) := ⟨_, rfl⟩
         replace H : (if x11_3.length < 2199023255552 then (belfryref11_Views.l1 kj27 l0 a1 a2 a3 x9_2 (x11_3 ++ [(⟨a1, t334, y340⟩ : S31)]) (wrap64 (x12_3 + 1))) else (none)) = some r := by first | (rw [hy340]; with_reducible exact H) | (have H2_ := (Option.bind_some _ _).symm.trans H; rw [hy340]; with_reducible exact H2_) | (have H2_ := (Option.bind_some _ _).symm.trans H; with_reducible exact H2_) | with_reducible exact H | (rw [hy340]; exact H) | exact H
         have Ny340 := Aside0.mk hy340; clear hy340; by_cases c40 : x11_3.length < 2199023255552; rotate_left
         · rw [if_neg c40] at H; exact absurd H (by simp)
         rw [if_pos c40] at H; have LMc40 := Aside0.mk c40; clear c40
         obtain ⟨y343, hy343⟩ : ∃ y_ : List (S31), y_ = (x11_3 ++ [(⟨a1, t334, y340⟩ : S31)]) := ⟨_, rfl⟩
         replace H : (belfryref11_Views.l1 kj27 l0 a1 a2 a3 x9_2 y343 (wrap64 (x12_3 + 1))) = some r := by first | (rw [hy343]; with_reducible exact H) | (have H2_ := (Option.bind_some _ _).symm.trans H; rw [hy343]; with_reducible exact H2_) | (have H2_ := (Option.bind_some _ _).symm.trans H; with_reducible exact H2_) | with_reducible exact H | (rw [hy343]; exact H) | exact H
         have Ny343 := Aside0.mk hy343; clear hy343; have H' := Aside0.mk H; clear H
         have p333 : 0 ≤ (x12_3 : Int) := of_decide_eq_true asm
         have q333 : x12_3 < (l0.length : Int) := of_decide_eq_true asm
         obtain ⟨ad333, A333_3, c333_3, A333_4, c333_4, e333, hx333_0, hx333_1, hx333_2, hx333_3, hx333_4, hl333_3, hi333_3, hl333_4, hi333_4⟩ := at_T46 HR0.out x12_3 p333 q333
         cases e333
         replace hx333_0 := bC HB hx333_0
         replace hx333_1 := bC HB hx333_1
         replace hx333_2 := bC HB hx333_2
         replace hx333_3 := bC HB hx333_3
         replace hx333_4 := bC HB hx333_4
         have HR333_3 := Aside0.mk hi333_3; have HC333_3 := Aside0.mk hl333_3; clear hi333_3 hl333_3; have HR333_4 := Aside0.mk hi333_4; have HC333_4 := Aside0.mk hl333_4; clear hi333_4 hl333_4; replace p333 := eq_true p333; replace q333 := eq_true q333
         obtain ⟨Ao41, co41, eo41⟩ := Kd.R_slice HO_9.out
         subst eo41
         try go_wp2_with (first | ((with_reducible refine gate_callee (f := 37) rfl ?_); refine goesL_ (some 94) rfl rfl Tryz.func37 (by kernel_rfl) rfl #[.slice A333_3 ((rd_T46 l0 x12_3).f3).length c333_3, .slice Ao41 x9_2.length co41] rfl lR ?_; (with_reducible refine (belfryref04_Both.calls kj27 _ _ ((rd_T46 l0 x12_3).f3) _ _ x9_2 t334 t335 _ ?side1 ?side2 ?side3 ?side4 A37.out).mono ?_); (case side1 => repeat (first | exact (Kd.C_below HR333_3.out HB.out) | (with_reducible refine Kd.C_alloc ?_ _) | (with_reducible refine Kd.C_drewN ?_ _) | (with_reducible refine Kd.C_drew ?_))); (case side2 => exact HC333_3.out); (case side3 => repeat (first | exact (Kd.R_reads' HO_9.out).2.2 | (with_reducible refine Kd.C_alloc ?_ _) | (with_reducible refine Kd.C_drewN ?_ _) | (with_reducible refine Kd.C_drew ?_))); (case side4 => exact (Kd.R_reads' HO_9.out).2.1); rintro e w42 ⟨v336, rfl, ho0, hb⟩; refine ⟨_, rfl, ?_⟩; have n0_ := Aside0.mk (Kd.R_elder' (by (with_reducible repeat (first | apply Kd.R_alloc | apply Kd.R_drewN | apply Kd.R_drew)); exact HO_9.out) (Kd.R_base ho0) hb); have n1_ := Aside0.mk (Kd.S_elder' (by (with_reducible repeat (first | apply Kd.S_alloc | apply Kd.S_drewN | apply Kd.S_drew)); exact HO_11.out) (Kd.R_base ho0) hb); have n2_ := Aside0.mk (Kd.R_lower (Kd.R_new' ho0 (Kd.R_lt (by (with_reducible repeat (first | apply Kd.R_alloc | apply Kd.R_drewN | apply Kd.R_drew)); exact HO_9.out))) (below_size bO)); have n3_ := Aside0.mk (below_step bO hb); clear HO_9; clear HO_11; clear HB; have HO_9 := n0_; have HO_11 := n1_; have HO337 := n2_; have HB := n3_; clear n0_ n1_ n2_ n3_; (try clear hb); (try clear hb2); (try clear hk); (try clear hi); (try clear ho0); obtain ⟨Ao43, co43, eo43⟩ := Kd.R_slice HO337.out; subst eo43) | ((with_reducible refine gate_dst (N := 15) rfl ?_); refine box_event ?hg (N := 15) ?hd (cs := #[.string (⟨#[]⟩ : ByteArray), .slice none 0 0, .slice none 0 0]) (t := 31) ?hr ?_; (case hd => rfl); (case hg => rfl); (case hr => first | (go_simp; done) | (go_simp; rfl)); intro gb338 hg w44 hbox hb; have n0_ := Aside0.mk (Kd.R_below (by (with_reducible repeat (first | apply Kd.R_alloc | apply Kd.R_drewN | apply Kd.R_drew)); exact HO_9.out) hb); have n1_ := Aside0.mk (Kd.S_below (Kd.S_elderB (by (with_reducible repeat (first | apply Kd.S_alloc | apply Kd.S_drewN | apply Kd.S_drew)); exact HO_11.out) gb338 (Nat.le_of_eq hg.symm)) hb); have n2_ := Aside0.mk (Kd.R_below (by (with_reducible repeat (first | apply Kd.R_alloc | apply Kd.R_drewN | apply Kd.R_drew)); exact HO337.out) hb); have n3_ := Aside0.mk (below_step bO hb); have n4_ := Aside0.mk (hbox); have n5_ := Aside0.mk ((by rw [hg]; exact (below_size bO) : w.heap.size ≤ gb338)); have n6_ := Aside0.mk ((by rw [hg]; exact (below_size bO) : w.heap.size ≤ gb338)); clear HO_9; clear HO_11; clear HO337; clear HB; have HO_9 := n0_; have HO_11 := n1_; have HO337 := n2_; have HB := n3_; have BK338 := n4_; have GW338 := n5_; have GE338 := n6_; clear n0_ n1_ n2_ n3_ n4_ n5_ n6_; clear hb hbox hg; have hcz45_0 : w44.cell? ⟨gb338, 0, none⟩ = some (.string (⟨#[]⟩ : ByteArray)) := (blk_cell BK338.out 0).trans rfl; have hcz45_1 : w44.cell? ⟨gb338, 1, none⟩ = some (.slice none 0 0) := (blk_cell BK338.out 1).trans rfl; have hcz45_2 : w44.cell? ⟨gb338, 2, none⟩ = some (.slice none 0 0) := (blk_cell BK338.out 2).trans rfl; have hfz45_0 := blk_frozen BK338.out 0; have hfz45_1 := blk_frozen BK338.out 1; have hfz45_2 := blk_frozen BK338.out 2))
         have n0_ : Aside0 (Kd.R k33 33 (((w44.setCell ⟨gb338, 0, none⟩ (.string a1)).setCell ⟨gb338, 1, none⟩ (.slice Ao43 t334.length co43)).setCell ⟨gb338, 2, none⟩ (.slice none 0 0)) w.heap.size (fun k_ => some k_ ≠ (.slice Ao43 t334.length co43 : Value).ownBlock) (.slice Ao41 x9_2.length co41) x9_2) := ⟨by (with_reducible repeat (first | apply Kd.R_alloc | apply Kd.R_drewN | apply Kd.R_drew)); exact Kd.R_mono (Kd.R_far (p := ⟨gb338, 2, none⟩) (Kd.R_far (p := ⟨gb338, 1, none⟩) (Kd.R_far (p := ⟨gb338, 0, none⟩) (Kd.R_types HO_9.out BK338.out (by decide)) (fun _ hk => hk.2) (.string a1)) (fun _ hk => hk.2) (.slice Ao43 t334.length co43)) (fun _ hk => hk.2) (.slice none 0 0)) (fun _ hk => hk.1.2)⟩
         have n1_ : Aside0 (Kd.S k31 31 (((w44.setCell ⟨gb338, 0, none⟩ (.string a1)).setCell ⟨gb338, 1, none⟩ (.slice Ao43 t334.length co43)).setCell ⟨gb338, 2, none⟩ (.slice none 0 0)) w.heap.size (fun k_ => some k_ ≠ (.slice Ao41 x9_2.length co41 : Value).ownBlock ∧ some k_ ≠ (.slice Ao43 t334.length co43 : Value).ownBlock ∧ k_ ≠ gb338) u11 x11_3) := ⟨by (with_reducible repeat (first | apply Kd.S_alloc | apply Kd.S_drewN | apply Kd.S_drew)); exact Kd.S_mono (Kd.S_far (p := ⟨gb338, 2, none⟩) (Kd.S_far (p := ⟨gb338, 1, none⟩) (Kd.S_far (p := ⟨gb338, 0, none⟩) (Kd.S_mono HO_11.out (fun k_ hk => (⟨hk, hk.2⟩ : _ ∧ k_ ≠ gb338))) (fun _ hk => hk.2) (.string a1)) (fun _ hk => hk.2) (.slice Ao43 t334.length co43)) (fun _ hk => hk.2) (.slice none 0 0)) (fun _ hk => ⟨hk.1.1.1, ⟨hk.1.1.2, hk.1.2⟩⟩)⟩
         have n2_ : Aside0 (Kd.R k33 33 (((w44.setCell ⟨gb338, 0, none⟩ (.string a1)).setCell ⟨gb338, 1, none⟩ (.slice Ao43 t334.length co43)).setCell ⟨gb338, 2, none⟩ (.slice none 0 0)) w.heap.size (fun k_ => some k_ ≠ (.slice Ao41 x9_2.length co41 : Value).ownBlock) (.slice Ao43 t334.length co43) t334) := ⟨by (with_reducible repeat (first | apply Kd.R_alloc | apply Kd.R_drewN | apply Kd.R_drew)); exact Kd.R_mono (Kd.R_far (p := ⟨gb338, 2, none⟩) (Kd.R_far (p := ⟨gb338, 1, none⟩) (Kd.R_far (p := ⟨gb338, 0, none⟩) (Kd.R_types HO337.out BK338.out (by decide)) (fun _ hk => hk.2) (.string a1)) (fun _ hk => hk.2) (.slice Ao43 t334.length co43)) (fun _ hk => hk.2) (.slice none 0 0)) (fun _ hk => hk.1.2)⟩
         have n3_ : Aside0 ((((w44.setCell ⟨gb338, 0, none⟩ (.string a1)).setCell ⟨gb338, 1, none⟩ (.slice Ao43 t334.length co43)).setCell ⟨gb338, 2, none⟩ (.slice none 0 0)).heap[gb338]? = some (.cells #[.string a1, .slice Ao43 t334.length co43, .slice none 0 0] 31 (0, 0))) := ⟨by (with_reducible repeat (first | refine blk_drewN ?_ _ | refine blk_drew ?_ | refine blk_alloc ?_ _)); refine blk_put (cs := #[.string a1, .slice Ao43 t334.length co43, .slice none 0 0]) ?_ 2 _ rfl; (with_reducible repeat (first | refine blk_drewN ?_ _ | refine blk_drew ?_ | refine blk_alloc ?_ _)); refine blk_put (cs := #[.string a1, .slice none 0 0, .slice none 0 0]) ?_ 1 _ rfl; (with_reducible repeat (first | refine blk_drewN ?_ _ | refine blk_drew ?_ | refine blk_alloc ?_ _)); refine blk_put (cs := #[.string (⟨#[]⟩ : ByteArray), .slice none 0 0, .slice none 0 0]) ?_ 0 _ rfl; (with_reducible repeat (first | refine blk_drewN ?_ _ | refine blk_drew ?_ | refine blk_alloc ?_ _)); exact BK338.out⟩
         have n4_ : Aside0 (Below w.heap.size w (((w44.setCell ⟨gb338, 0, none⟩ (.string a1)).setCell ⟨gb338, 1, none⟩ (.slice Ao43 t334.length co43)).setCell ⟨gb338, 2, none⟩ (.slice none 0 0))) := ⟨bO⟩
         (try clear HO_9); (try clear HO_11); (try clear HO337); (try clear BK338); (try clear HB); generalize (((w44.setCell ⟨gb338, 0, none⟩ (.string a1)).setCell ⟨gb338, 1, none⟩ (.slice Ao43 t334.length co43)).setCell ⟨gb338, 2, none⟩ (.slice none 0 0)) = w46 at n0_ n1_ n2_ n3_ n4_ ⊢; have HO_9 := n0_; have HO_11 := n1_; have HO337 := n2_; have BK338 := n3_; have HB := n4_; clear n0_ n1_ n2_ n3_ n4_; have n0_ := Aside0.mk (Kd.R_drew HO_9.out); have n1_ := Aside0.mk (Kd.S_drew HO_11.out); have n2_ := Aside0.mk (Kd.R_drew HO337.out); have n3_ := Aside0.mk (blk_drew BK338.out)
         have n4_ := Aside0.mk (below_drew1 HB.out); clear HO_9; clear HO_11; clear HO337; clear BK338; clear HB; have HO_9 := n0_; have HO_11 := n1_; have HO337 := n2_; have BK338 := n3_; have HB := n4_; clear n0_ n1_ n2_ n3_ n4_
         have p339 : 0 ≤ (x12_3 : Int) := of_decide_eq_true asm
         have q339 : x12_3 < (l0.length : Int) := of_decide_eq_true asm
         obtain ⟨ad339, A339_3, c339_3, A339_4, c339_4, e339, hx339_0, hx339_1, hx339_2, hx339_3, hx339_4, hl339_3, hi339_3, hl339_4, hi339_4⟩ := at_T46 HR0.out x12_3 p339 q339
         have hw339_4 := hx339_4; have hw339_3 := hx339_3; have hw339_2 := hx339_2; have hw339_1 := hx339_1; have hw339_0 := hx339_0
         obtain rfl : ad333 = ad339 := (by injection e339)
         replace hx339_0 := bC HB hx339_0
         replace hx339_1 := bC HB hx339_1
         replace hx339_2 := bC HB hx339_2
         replace hx339_3 := bC HB hx339_3
         replace hx339_4 := bC HB hx339_4
         have HR339_3 := Aside0.mk hi339_3; have HC339_3 := Aside0.mk hl339_3; clear hi339_3 hl339_3; have HR339_4 := Aside0.mk hi339_4; have HC339_4 := Aside0.mk hl339_4; clear hi339_4 hl339_4; replace p339 := eq_true p339; replace q339 := eq_true q339
         refine start_ (n := 10) (S := fun w' => w'.cell? ⟨gb338, 0, none⟩ = some (.string a1) ∧ w'.cell? ⟨gb338, 1, none⟩ = some (.slice Ao43 t334.length co43) ∧ w'.cell? ⟨gb338, 2, none⟩ = some (.slice none 0 0) ∧ w'.cell? (ad333.add ((x12_3).toNat * 5)) = some (.bool ((rd_T46 l0 x12_3).f0)) ∧ w'.cell? ⟨(ad333.add ((x12_3).toNat * 5)).block, (ad333.add ((x12_3).toNat * 5)).off + 1, none⟩ = some (.int .i64 ((rd_T46 l0 x12_3).f1)) ∧ w'.cell? ⟨(ad333.add ((x12_3).toNat * 5)).block, (ad333.add ((x12_3).toNat * 5)).off + 2, none⟩ = some (.string ((rd_T46 l0 x12_3).f2)) ∧ w'.cell? ⟨(ad333.add ((x12_3).toNat * 5)).block, (ad333.add ((x12_3).toNat * 5)).off + 3, none⟩ = some (.slice A339_3 ((rd_T46 l0 x12_3).f3).length c339_3) ∧ w'.cell? ⟨(ad333.add ((x12_3).toNat * 5)).block, (ad333.add ((x12_3).toNat * 5)).off + 4, none⟩ = some (.slice A339_4 ((rd_T46 l0 x12_3).f4).length c339_4)) (ds := [9]) (bA 10 0) (by kernel_rfl) rfl rfl ⟨(blk_cell BK338.out 0).trans rfl, (blk_cell BK338.out 1).trans rfl, (blk_cell BK338.out 2).trans rfl, (bC HB hw339_0), (bC HB hw339_1), (bC HB hw339_2), (bC HB hw339_3), (bC HB hw339_4)⟩ (fun hHeld => ?_); refine with_tabW belfryref11_Views.tab21 belfryref11_Views.bits21 (fun HT_ HW_ => ?_)
         generalize w46.drew = w47 at HO_9 HO_11 HO337 BK338 HB HR339_3 HR339_4 hx339_0 hx339_1 hx339_2 hx339_3 hx339_4 hHeld ⊢
         refine pur 0 (some 102) (bA 10 1) HT_ rfl rfl (by kernel_rfl) (v := ?_) (a' := ?_) (Or.inl ⟨by rfl, ?_⟩) ?_ ?_
         rotate_left
         · intro w'; go_simp; with_reducible rfl
         rotate_left
         · simp only [Act.put, LsA, LsZ, LsS, i64_w, i32_w]; rfl
         refine pur 2 (some 104) (bA 10 5) HT_ rfl rfl (by kernel_rfl) (v := ?_) (a' := ?_) (Or.inl ⟨by rfl, ?_⟩) ?_ ?_
         rotate_left
         · intro w'; go_simp; with_reducible rfl
         rotate_left
         · simp only [Act.put, LsA, LsZ, LsS, i64_w, i32_w]; rfl
         refine pur 3 (some 105) (bA 10 13) HT_ rfl rfl (by kernel_rfl) (v := ?_) (a' := ?_) (Or.inl ⟨by rfl, ?_⟩) ?_ ?_
         rotate_left
         · intro w'; go_simp; with_reducible rfl
         rotate_left
         · simp only [Act.put, LsA, LsZ, LsS, i64_w, i32_w]; rfl
         refine pur 4 (some 106) (bA 10 29) HT_ rfl rfl (by kernel_rfl) (v := ?_) (a' := ?_) (Or.inl ⟨by rfl, ?_⟩) ?_ ?_
         rotate_left
         · intro w'; go_simp; with_reducible rfl
         rotate_left
         · simp only [Act.put, LsA, LsZ, LsS, i64_w, i32_w]; rfl
         refine pur 5 (some 107) (bA 10 61) HT_ rfl rfl (by kernel_rfl) (v := ?_) (a' := ?_) (Or.inl ⟨by rfl, ?_⟩) ?_ ?_
         rotate_left
         · intro w'; go_simp; with_reducible rfl
         rotate_left
         · simp only [Act.put, LsA, LsZ, LsS, i64_w, i32_w]; rfl
         refine take_ (i := 1) (N := some 103) (v := ?_) (a' := ?_) (bA 10 63) rfl rfl (take_ofW HT_.out HW_.out (by kernel_rfl)) (fun _ _ _ h => h) (Or.inl ⟨by rfl, ?_⟩) hHeld ?_ ?_
         rotate_left
         ·
          rintro w' ⟨s0, s1, s2, s3, s4, s5, s6, s7⟩
          go_simp; with_reducible rfl
         rotate_left
         · simp only [Act.put, LsA, LsZ, LsS, i64_w, i32_w]; rfl
         refine take_ (i := 6) (N := some 108) (v := ?_) (a' := ?_) (bA 10 127) rfl rfl (take_ofW HT_.out HW_.out (by kernel_rfl)) (fun _ _ _ h => h) (Or.inl ⟨by rfl, ?_⟩) hHeld ?_ ?_
         rotate_left
         ·
          rintro w' ⟨s0, s1, s2, s3, s4, s5, s6, s7⟩
          go_simp; with_reducible rfl
         rotate_left
         · simp only [Act.put, LsA, LsZ, LsS, i64_w, i32_w]; rfl
         refine one_ (i := 7) (N := some 109) (bA 10 255) rfl rfl (one_of HT_.out (by kernel_rfl)) (by decide) (fun K hK => ?_)
         refine Kd.R_append_rows_step Kd.string (w0 := w) w.heap.size (by rfl) (.tmp 103) (.tmp 108) 29 9 (.string ⟨#[]⟩) 16 rfl Tryz.underlying29 info9 rfl (by decide) (by omega) (.slice none 0 0) ([] : List ByteArray) ((rd_T46 l0 x12_3).f4) _ _ _ (fun _ => True) (fun _ => False) rfl rfl ?aO ?aR (fun _ _ h => h) (fun _ h => h.elim) ?aF ?aB ?aS ?aL ?_
         (case aR => repeat (first | exact (Kd.C_below HR339_4.out HB.out) | (with_reducible refine Kd.C_alloc ?_ _) | (with_reducible refine Kd.C_drewN ?_ _) | (with_reducible refine Kd.C_drew ?_)))
         (case aB => exact bO)
         (case aF => exact (fun _ _ => trivial))
         (case aO => exact ((Kd.R_nil _ _ _ _ (fun _ => True))))
         (case aS => exact (below_size bO))
         (case aL => have := LMc39.out; omega)
         intro v341 w48 ho hb hg hat; rw [← Ny340.out] at ho
         have n0_ := Aside0.mk (Kd.R_grown (by (with_reducible repeat (first | apply Kd.R_alloc | apply Kd.R_drewN | apply Kd.R_drew)); exact HO_9.out) hg (fun _ _ => by simp [Value.ownBlock]))
         have n1_ := Aside0.mk (Kd.S_after (Kd.S_apart_nil (by (with_reducible repeat (first | apply Kd.S_alloc | apply Kd.S_drewN | apply Kd.S_drew)); exact HO_11.out)) hg hat)
         have n2_ := Aside0.mk (Kd.R_grown (by (with_reducible repeat (first | apply Kd.R_alloc | apply Kd.R_drewN | apply Kd.R_drew)); exact HO337.out) hg (fun _ _ => by simp [Value.ownBlock]))
         have n3_ := Aside0.mk (blk_grown (g := gb338) (o := .cells #[.string a1, .slice Ao43 t334.length co43, .slice none 0 0] 31 (0, 0)) bK hg (by simp [Value.ownBlock])); have n4_ := Aside0.mk (hb); have n5_ := Aside0.mk (ho); clear HO_9; clear HO_11; clear HO337; clear BK338; clear HB; have HO_9 := n0_; have HO_11 := n1_; have HO337 := n2_; have BK338 := n3_; have HB := n4_; have HO342 := n5_; clear n0_ n1_ n2_ n3_ n4_ n5_; clear ho hb hg hat
         obtain ⟨Ao49, co49, eo49⟩ := Kd.R_slice HO342.out
         (first | subst eo49 | (injection eo49 with f1_ f2_ f3_; have f4_ := f1_.symm; have f5_ := f3_.symm; clear f1_ f2_ f3_; subst f4_; subst f5_))
         refine hK.out _ _ ⟨(blk_cell BK338.out 0).trans rfl, (blk_cell BK338.out 1).trans rfl, (blk_cell BK338.out 2).trans rfl, (bC HB hw339_0 :), (bC HB hw339_1 :), (bC HB hw339_2 :), (bC HB hw339_3 :), (bC HB hw339_4 :)⟩ (fun hHeld => ?_)
         clear hK K
         refine norm_ (a' := ?_) ?_ ?_
         rotate_left
         ·
          show Act.put _ (some 109) _ = _
          simp only [Act.put, LsA, LsZ, LsS, i64_w, i32_w]; rfl
         refine pur 8 (some 110) (bA 10 511) HT_ rfl rfl (by kernel_rfl) (v := ?_) (a' := ?_) (Or.inl ⟨by rfl, ?_⟩) ?_ ?_
         rotate_left
         · intro w'; go_simp; with_reducible rfl
         rotate_left
         · simp only [Act.put, LsA, LsZ, LsS, i64_w, i32_w]; rfl
         refine last_ (i := 9) (N := none) (bA 10 1023) rfl rfl (one_of HT_.out (by kernel_rfl)) (by decide) (fun K hK => ?_)
         have hs50 : w48.cell? ⟨gb338, 2, none⟩ = some (.slice none 0 0) := (blk_cell BK338.out 2).trans rfl
         have hfs50 := blk_frozen BK338.out 2
         refine skip_ (w1 := ?_) (by rfl) rfl ?_ ?_
         rotate_left
         · go_simp; rfl
         refine hK.out _ _ ?_
         clear hK K
         refine done_ (done_of HT_.out (by kernel_rfl)) ?_
         have n0_ : Aside0 (Kd.R k33 33 (w48.setCell ⟨gb338, 2, none⟩ (.slice Ao49 y340.length co49)) w.heap.size (fun k_ => some k_ ≠ (.slice Ao43 t334.length co43 : Value).ownBlock) (.slice Ao41 x9_2.length co41) x9_2) := ⟨by (with_reducible repeat (first | apply Kd.R_alloc | apply Kd.R_drewN | apply Kd.R_drew)); exact Kd.R_mono (Kd.R_far (p := ⟨gb338, 2, none⟩) (Kd.R_types HO_9.out BK338.out (by decide)) (fun _ hk => hk.2) (.slice Ao49 y340.length co49)) (fun _ hk => hk.1)⟩
         have n1_ : Aside0 (Kd.S k31 31 (w48.setCell ⟨gb338, 2, none⟩ (.slice Ao49 y340.length co49)) w.heap.size (fun k_ => some k_ ≠ (.slice Ao41 x9_2.length co41 : Value).ownBlock ∧ some k_ ≠ (.slice Ao43 t334.length co43 : Value).ownBlock ∧ some k_ ≠ (.slice Ao49 y340.length co49 : Value).ownBlock ∧ k_ ≠ gb338) u11 x11_3) := ⟨by (with_reducible repeat (first | apply Kd.S_alloc | apply Kd.S_drewN | apply Kd.S_drew)); exact Kd.S_mono (Kd.S_far (p := ⟨gb338, 2, none⟩) (Kd.S_mono HO_11.out (fun k_ hk => (⟨hk, hk.1.2.2⟩ : _ ∧ k_ ≠ gb338))) (fun _ hk => hk.2) (.slice Ao49 y340.length co49)) (fun _ hk => ⟨hk.1.1.1, ⟨hk.1.1.2.1, ⟨hk.1.2, hk.1.1.2.2⟩⟩⟩)⟩
         have n2_ : Aside0 (Kd.R k33 33 (w48.setCell ⟨gb338, 2, none⟩ (.slice Ao49 y340.length co49)) w.heap.size (fun k_ => some k_ ≠ (.slice Ao41 x9_2.length co41 : Value).ownBlock) (.slice Ao43 t334.length co43) t334) := ⟨by (with_reducible repeat (first | apply Kd.R_alloc | apply Kd.R_drewN | apply Kd.R_drew)); exact Kd.R_mono (Kd.R_far (p := ⟨gb338, 2, none⟩) (Kd.R_types HO337.out BK338.out (by decide)) (fun _ hk => hk.2) (.slice Ao49 y340.length co49)) (fun _ hk => hk.1)⟩
         have n3_ : Aside0 (Kd.R Kd.string 9 (w48.setCell ⟨gb338, 2, none⟩ (.slice Ao49 y340.length co49)) w.heap.size (fun _ => True) (.slice Ao49 y340.length co49) y340) := ⟨by (with_reducible repeat (first | apply Kd.R_alloc | apply Kd.R_drewN | apply Kd.R_drew)); exact Kd.R_mono (Kd.R_far (p := ⟨gb338, 2, none⟩) (Kd.R_types HO342.out BK338.out (by decide)) (fun _ hk => hk.2) (.slice Ao49 y340.length co49)) (fun _ hk => trivial)⟩
         have n4_ : Aside0 ((w48.setCell ⟨gb338, 2, none⟩ (.slice Ao49 y340.length co49)).heap[gb338]? = some (.cells #[.string a1, .slice Ao43 t334.length co43, .slice Ao49 y340.length co49] 31 (0, 0))) := ⟨by (with_reducible repeat (first | refine blk_drewN ?_ _ | refine blk_drew ?_ | refine blk_alloc ?_ _)); refine blk_put (cs := #[.string a1, .slice Ao43 t334.length co43, .slice none 0 0]) ?_ 2 _ rfl; (with_reducible repeat (first | refine blk_drewN ?_ _ | refine blk_drew ?_ | refine blk_alloc ?_ _)); exact BK338.out⟩
         have n5_ : Aside0 (Below w.heap.size w (w48.setCell ⟨gb338, 2, none⟩ (.slice Ao49 y340.length co49))) := ⟨bO⟩
         (try clear HO_9); (try clear HO_11); (try clear HO337); (try clear HO342); (try clear BK338); (try clear HB); generalize (w48.setCell ⟨gb338, 2, none⟩ (.slice Ao49 y340.length co49)) = w51 at n0_ n1_ n2_ n3_ n4_ n5_ ⊢; have HO_9 := n0_; have HO_11 := n1_; have HO337 := n2_; have HO342 := n3_; have BK338 := n4_; have HB := n5_; clear n0_ n1_ n2_ n3_ n4_ n5_
         have hcz52_0 : w51.cell? ⟨gb338, 0, none⟩ = some (.string a1) := (blk_cell BK338.out 0).trans rfl
         have hcz52_1 : w51.cell? ⟨gb338, 1, none⟩ = some (.slice Ao43 t334.length co43) := (blk_cell BK338.out 1).trans rfl
         have hcz52_2 : w51.cell? ⟨gb338, 2, none⟩ = some (.slice Ao49 y340.length co49) := (blk_cell BK338.out 2).trans rfl
         have hfz52_0 := blk_frozen BK338.out 0; have hfz52_1 := blk_frozen BK338.out 1; have hfz52_2 := blk_frozen BK338.out 2
         try go_wp2_with (first | ((with_reducible refine gate_builtin (b := .append) (xs := #[.tmp 111, .tmp 113]) rfl ?_); at_builtin; refine Kd.S_append k31 (w0 := w) w.heap.size rfl (.tmp 111) (.tmp 113) 25 31 (.agg #[(.string ⟨#[]⟩), (.slice none 0 0), (.slice none 0 0)]) 64 rfl Tryz.underlying25 info31 rfl (by decide) (by omega) u11 x11_3 (⟨a1, t334, y340⟩ : S31) [.string a1, .slice Ao43 t334.length co43, .slice Ao49 y340.length co49] (fun k_ => some k_ ≠ (.slice Ao41 x9_2.length co41 : Value).ownBlock ∧ k_ ≠ gb338) (fun k_ => some k_ = (.slice Ao43 t334.length co43 : Value).ownBlock ∨ some k_ = (.slice Ao49 y340.length co49 : Value).ownBlock) rfl rfl ?aP (fun k_ hk_ => hk_.elim (fun h_ => ((Kd.R_mono (ok' := fun k_ => ((fun k_ => some k_ ≠ (.slice Ao41 x9_2.length co41 : Value).ownBlock ∧ k_ ≠ gb338)) k_ ∧ some k_ ≠ (u11 : Value).ownBlock) (Kd.R_types (Kd.R_apart' (HO337.out) (Kd.S_typed HO_11.out) (by decide)) BK338.out (by decide)) (fun k_ hk => ⟨⟨hk.1.1, hk.2⟩, hk.1.2⟩))).1 k_ h_.symm) (fun h_ => ((Kd.R_mono (ok' := fun k_ => ((fun k_ => some k_ ≠ (.slice Ao41 x9_2.length co41 : Value).ownBlock ∧ k_ ≠ gb338)) k_ ∧ some k_ ≠ (u11 : Value).ownBlock) (Kd.R_types (Kd.R_apart' (Kd.R_apart' (HO342.out) (Kd.R_typed HO_9.out) (by decide)) (Kd.S_typed HO_11.out) (by decide)) BK338.out (by decide)) (fun k_ hk => ⟨⟨hk.1.1.2, hk.2⟩, hk.1.2⟩))).1 k_ h_.symm)) ?aF ?aO ?aB ?aS ?aL ?_; (case aP => exact k31_mkM _ _ _ (⟨a1, t334, y340⟩ : S31) (Kd.R_mono (Kd.R_tight rfl (Kd.R_mono (ok' := fun k_ => ((fun k_ => some k_ ≠ (.slice Ao41 x9_2.length co41 : Value).ownBlock ∧ k_ ≠ gb338)) k_ ∧ some k_ ≠ (u11 : Value).ownBlock) (Kd.R_types (Kd.R_apart' (HO337.out) (Kd.S_typed HO_11.out) (by decide)) BK338.out (by decide)) (fun k_ hk => ⟨⟨hk.1.1, hk.2⟩, hk.1.2⟩))) (fun _ h_ => Or.inl h_)) (Kd.R_mono (Kd.R_tight rfl (Kd.R_mono (ok' := fun k_ => ((fun k_ => some k_ ≠ (.slice Ao41 x9_2.length co41 : Value).ownBlock ∧ k_ ≠ gb338)) k_ ∧ some k_ ≠ (u11 : Value).ownBlock) (Kd.R_types (Kd.R_apart' (Kd.R_apart' (HO342.out) (Kd.R_typed HO_9.out) (by decide)) (Kd.S_typed HO_11.out) (by decide)) BK338.out (by decide)) (fun k_ hk => ⟨⟨hk.1.1.2, hk.2⟩, hk.1.2⟩))) (fun _ h_ => Or.inr (h_)))); (case aB => exact bO); (case aF => exact (fun k_ hk => ⟨Kd.fresh' (Kd.R_lt (by (with_reducible repeat (first | apply Kd.R_alloc | apply Kd.R_drewN | apply Kd.R_drew)); exact HO_9.out)) k_ hk, Kd.freshB (g := gb338) (o := .cells #[.string a1, .slice Ao43 t334.length co43, .slice Ao49 y340.length co49] 31 (0, 0)) bK k_ hk⟩)); (case aO => exact (by (with_reducible repeat (first | apply Kd.S_alloc | apply Kd.S_drewN | apply Kd.S_drew)); exact Kd.S_mono HO_11.out (fun k_ hk => ⟨⟨hk.1, hk.2.2.2⟩, fun e_ => e_.elim (fun h_ => hk.2.1 h_) (fun h_ => hk.2.2.1 h_)⟩))); (case aS => exact (below_size bO)); (case aL => have := LMc40.out; omega); intro v344 w53 ho hb hg hat; rw [← Ny343.out] at ho; have n0_ := Aside0.mk (Kd.R_over' (by (with_reducible repeat (first | apply Kd.R_alloc | apply Kd.R_drewN | apply Kd.R_drew)); exact HO_9.out) (Kd.S_typed (by (with_reducible repeat (first | apply Kd.S_alloc | apply Kd.S_drewN | apply Kd.S_drew)); exact HO_11.out)) (by decide) hg); have n1_ := Aside0.mk (blk_grown (g := gb338) (o := .cells #[.string a1, .slice Ao43 t334.length co43, .slice Ao49 y340.length co49] 31 (0, 0)) bK hg (Kd.S_away HO_11.out (fun _ hk => hk.2.2.2))); have n2_ := Aside0.mk (hb); have n3_ := Aside0.mk (ho); clear HO_9; clear BK338; clear HB; clear HO_11; clear HO337; clear HO342; have HO_9 := n0_; have BK338 := n1_; have HB := n2_; have HO345 := n3_; clear n0_ n1_ n2_ n3_; clear ho hb hg hat))
         go_roundg kj27
         case measure => have := HJ4.out; have := HK2.out; have := HK3.out; have := HJ27.out; omega
         case rel => exact ⟨(y343), (wrap64 (x12_3 + 1)), sR, H', ⟨by have := HJ4.out; have := HK2.out; have := HK3.out; have := HJ27.out; omega⟩, ⟨by (with_reducible repeat (first | apply Kd.R_alloc | apply Kd.R_drewN | apply Kd.R_drew)); exact Kd.R_mono HO_9.out (fun _ hk => trivial)⟩, ⟨by (with_reducible repeat (first | apply Kd.S_alloc | apply Kd.S_drewN | apply Kd.S_drew)); exact Kd.S_mono HO345.out (fun _ hk => hk.1)⟩, ⟨bO⟩⟩
end Go.Proofs.YtkedidjjhhjdbaaGreatDoor.Pr
