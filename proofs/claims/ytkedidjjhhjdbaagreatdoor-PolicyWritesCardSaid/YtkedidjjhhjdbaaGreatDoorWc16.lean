import Derived.Test.YtkedidjjhhjdbaaGreatDoorWc0
import Derived.Test.YtkedidjjhhjdbaaGreatDoorWc5
import Derived.Test.YtkedidjjhhjdbaaGreatDoorWc13
namespace Go.Proofs.YtkedidjjhhjdbaaGreatDoor.Pr
open Go.RowKit Go.Proofs.YtkedidjjhhjdbaaGreatDoorW.PrintWords Go.Proofs.YtkedidjjhhjdbaaGreatDoorW.PrintLast Go.Proofs.YtkedidjjhhjdbaaGreatDoorW.PrintMore
attribute [local go_sem] max2_int min2_int max_two min_two max_three min_three max_four min_four strGtr strLeq strGeq
set_option linter.unusedVariables false
set_option linter.unusedSimpArgs false
attribute [local go_sem high] eqA33
def belfryref11_Lent.l0 : Nat → List (S46) → List (S46) → Int → Option ((List (S46)))
  | 0, _, _, _ => none
  | k + 1, x0, x3, x4 => if x4 < (x0.length : Int) then (if 0 ≤ x4 then (if ([] : List (S33)).length + ((rd_T46 x0 x4).f3).length < 3518437208883 then (if ([] : List ByteArray).length + ((rd_T46 x0 x4).f4).length < 8796093022208 then (if x3.length < 1759218604441 then (belfryref11_Lent.l0 k x0 (x3 ++ [(⟨(rd_T46 x0 x4).f0, (rd_T46 x0 x4).f1, (rd_T46 x0 x4).f2, (([] : List (S33)) ++ ((rd_T46 x0 x4).f3)), (([] : List ByteArray) ++ ((rd_T46 x0 x4).f4))⟩ : S46)]) (wrap64 (x4 + 1))) else (none)) else (none)) else (none)) else (none)) else (some x3)
def belfryref11_Lent.f (k : Nat) (l0 : List (S46)) : Option ((List (S46))) := belfryref11_Lent.l0 k l0 ([] : List (S46)) 0
def belfryref11_Lent.T7 : Bool × List (List Nat × List Nat) := (true, [([], []), ([0], [0]), ([], []), ([], []), ([2, 3], [2, 3]), ([4], [4]), ([5], [5]), ([1, 6], [1, 6]), ([0, 1, 2, 3, 4, 5, 6, 7], []), ([8, 7, 7, 0, 1, 2, 3, 4, 5, 6, 7], [7, 8])])
def belfryref11_Lent.B7 : List Nat := [0, 1, 0, 0, 12, 28, 60, 127, 255, 511]
theorem belfryref11_Lent.tab7 : rtab .any (opsOf Tryz.f10 7) = belfryref11_Lent.T7 := by kernel_rfl
theorem belfryref11_Lent.bits7 : waitsOk belfryref11_Lent.T7.2 belfryref11_Lent.B7 = true := by kernel_rfl
def belfryref11_Lent.T9 : Bool × List (List Nat × List Nat) := (true, [([], []), ([0], [0]), ([], []), ([], []), ([2, 3], [2, 3]), ([4], [4]), ([5], [5]), ([1, 6], [1, 6]), ([0, 1, 2, 3, 4, 5, 6, 7], []), ([8, 7, 7, 0, 1, 2, 3, 4, 5, 6, 7], [7, 8])])
def belfryref11_Lent.B9 : List Nat := [0, 1, 0, 0, 12, 28, 60, 127, 255, 511]
theorem belfryref11_Lent.tab9 : rtab .any (opsOf Tryz.f10 9) = belfryref11_Lent.T9 := by kernel_rfl
theorem belfryref11_Lent.bits9 : waitsOk belfryref11_Lent.T9.2 belfryref11_Lent.B9 = true := by kernel_rfl
set_option maxHeartbeats 8000000 in
set_option maxRecDepth 100000 in
theorem belfryref11_Lent.calls (k : Nat) (A0 : Option Addr) (c0 : Nat) (l0 : List (S46)) (r : List (S46)) (w : World) (hr0 : Kd.C k46 w A0 l0.length l0) (hc0 : l0.length ≤ c0) (h : belfryref11_Lent.f k l0 = some r) :
  Calls Tryz.prog 10 #[.slice A0 l0.length c0] w fun e w' => ∃ v0_ : Value, e = .returned (v0_) ∧ Kd.S k46 46 w' w.heap.size (fun _ => True) v0_ r ∧ Below w.heap.size w w' := by
 have hu46 := Tryz.underlying46; have HR0 := Aside0.mk hr0; have HC0 := Aside0.mk hc0; clear hr0 hc0; have HB := Aside0.mk (Below.refl w.heap.size w)
 have H : (belfryref11_Lent.l0 k l0 ([] : List (S46)) 0) = some r := h
 clear h; have H' := Aside0.mk H; clear H
 go_enter Tryz.func10, Tryz.ntmps10
 go_wp2
 go_loopg [3, 4] k (fun kq v3 v4 w' => ∃ (x3_1 : List (S46)) (x4_1 : Int), v4 = .int .i64 x4_1 ∧ Aside0 (belfryref11_Lent.l0 kq l0 x3_1 x4_1 = some r) ∧ Aside0 (kq ≤ k) ∧ Aside0 (Kd.S k46 46 w' w.heap.size (fun _ => True) v3 x3_1) ∧ Aside0 (Below w.heap.size w w'))
 case atStart => exact ⟨(([] : List (S46))), (0), sR, H', ⟨Nat.le_refl _⟩, ⟨by first | exact Kd.S_nil _ _ _ _ _ | exact Kd.N_nil _ _ _ _ _ | exact Kd.V_nil _ _ _ _ _ | exact Kd.Q_nil _ _ _ _ _ | exact Kd.R_nil _ _ _ _ _⟩, ⟨bO⟩⟩
 case round =>
  clear H'; (try clear c1)
  obtain ⟨x3_1, x4_1, rfl, HA, HK1, HO_3, HB⟩ := hrel
  cases gk with
  | zero => exact absurd HA.out (by simp [belfryref11_Lent.l0])
  | succ k1 =>
   have H := HA.out; clear HA
   simp only [belfryref11_Lent.l0] at H
   by_cases c2 : x4_1 < (l0.length : Int); rotate_left
   ·
    rw [if_neg c2] at H
    have c2b0 : decide (x4_1 < (l0.length : Int)) = false := decide_eq_false c2
    clear c2
    obtain rfl := Option.some.inj H
    go_wp2; go_ret
    exact ⟨_, eR, by (with_reducible repeat (first | apply Kd.S_alloc | apply Kd.S_drewN | apply Kd.S_drew)); exact HO_3.out, bO⟩
   rw [if_pos c2] at H
   have c2b0 : decide (x4_1 < (l0.length : Int)) = true := decide_eq_true c2
   clear c2; by_cases c3 : 0 ≤ x4_1; rotate_left
   · rw [if_neg c3] at H; exact absurd H (by simp)
   rw [if_pos c3] at H
   have c3b0 : decide (0 ≤ x4_1) = true := decide_eq_true c3
   clear c3; by_cases c4 : ([] : List (S33)).length + ((rd_T46 l0 x4_1).f3).length < 3518437208883; rotate_left
   · rw [if_neg c4] at H; exact absurd H (by simp)
   rw [if_pos c4] at H; have LMc4 := Aside0.mk c4; clear c4
   obtain ⟨y220, hy220⟩ : ∃ y_ : List (S33), y_ = (([] : List (S33)) ++ ((rd_T46 l0 x4_1).f3)) := ⟨_, rfl⟩
   replace H : (if ([] : List ByteArray).length + ((rd_T46 l0 x4_1).f4).length < 8796093022208 then (if x3_1.length < 1759218604441 then (belfryref11_Lent.l0 k1 l0 (x3_1 ++ [(⟨(rd_T46 l0 x4_1).f0, (rd_T46 l0 x4_1).f1, (rd_T46 l0 x4_1).f2, y220, (([] : List ByteArray) ++ ((rd_T46 l0 x4_1).f4))⟩ : S46)]) (wrap64 (x4_1 + 1))) else (none)) else (none)) = some r := by first | (rw [hy220]; with_reducible exact H) | (have H2_ := (Option.bind_some _ _).symm.trans H; rw [hy220]; with_reducible exact H2_) | (have H2_ := (Option.bind_some _ _).symm.trans H; with_reducible exact H2_) | with_reducible exact H | (rw [hy220]; exact H) | exact H
   have Ny220 := Aside0.mk hy220; clear hy220; by_cases c5 : ([] : List ByteArray).length + ((rd_T46 l0 x4_1).f4).length < 8796093022208; rotate_left
   · rw [if_neg c5] at H; exact absurd H (by simp)
   rw [if_pos c5] at H; have LMc5 := Aside0.mk c5; clear c5
   obtain ⟨y224, hy224⟩ : ∃ y_ : List ByteArray, y_ = (([] : List ByteArray) ++ ((rd_T46 l0 x4_1).f4)) := ⟨_, rfl⟩
   replace H : (if x3_1.length < 1759218604441 then (belfryref11_Lent.l0 k1 l0 (x3_1 ++ [(⟨(rd_T46 l0 x4_1).f0, (rd_T46 l0 x4_1).f1, (rd_T46 l0 x4_1).f2, y220, y224⟩ : S46)]) (wrap64 (x4_1 + 1))) else (none)) = some r := by first | (rw [hy224]; with_reducible exact H) | (have H2_ := (Option.bind_some _ _).symm.trans H; rw [hy224]; with_reducible exact H2_) | (have H2_ := (Option.bind_some _ _).symm.trans H; with_reducible exact H2_) | with_reducible exact H | (rw [hy224]; exact H) | exact H
   have Ny224 := Aside0.mk hy224; clear hy224; by_cases c6 : x3_1.length < 1759218604441; rotate_left
   · rw [if_neg c6] at H; exact absurd H (by simp)
   rw [if_pos c6] at H; have LMc6 := Aside0.mk c6; clear c6
   obtain ⟨y227, hy227⟩ : ∃ y_ : List (S46), y_ = (x3_1 ++ [(⟨(rd_T46 l0 x4_1).f0, (rd_T46 l0 x4_1).f1, (rd_T46 l0 x4_1).f2, y220, y224⟩ : S46)]) := ⟨_, rfl⟩
   replace H : (belfryref11_Lent.l0 k1 l0 y227 (wrap64 (x4_1 + 1))) = some r := by first | (rw [hy227]; with_reducible exact H) | (have H2_ := (Option.bind_some _ _).symm.trans H; rw [hy227]; with_reducible exact H2_) | (have H2_ := (Option.bind_some _ _).symm.trans H; with_reducible exact H2_) | with_reducible exact H | (rw [hy227]; exact H) | exact H
   have Ny227 := Aside0.mk hy227; clear hy227; have H' := Aside0.mk H; clear H
   have p217 : 0 ≤ (x4_1 : Int) := of_decide_eq_true asm
   have q217 : x4_1 < (l0.length : Int) := of_decide_eq_true asm
   obtain ⟨ad217, A217_3, c217_3, A217_4, c217_4, e217, hx217_0, hx217_1, hx217_2, hx217_3, hx217_4, hl217_3, hi217_3, hl217_4, hi217_4⟩ := at_T46 HR0.out x4_1 p217 q217
   cases e217
   replace hx217_0 := bC HB hx217_0
   replace hx217_1 := bC HB hx217_1
   replace hx217_2 := bC HB hx217_2
   replace hx217_3 := bC HB hx217_3
   replace hx217_4 := bC HB hx217_4
   have HR217_3 := Aside0.mk hi217_3; have HC217_3 := Aside0.mk hl217_3; clear hi217_3 hl217_3; have HR217_4 := Aside0.mk hi217_4; have HC217_4 := Aside0.mk hl217_4; clear hi217_4 hl217_4; replace p217 := eq_true p217; replace q217 := eq_true q217
   try go_wp2_with (first | ((with_reducible refine gate_dst (N := 5) rfl ?_); refine box_event ?hg (N := 5) ?hd (cs := #[.bool false, .int .i64 0, .string (⟨#[]⟩ : ByteArray), .slice none 0 0, .slice none 0 0]) (t := 46) ?hr ?_; (case hd => rfl); (case hg => rfl); (case hr => first | (go_simp; done) | (go_simp; rfl)); intro gb218 hg w7 hbox hb; have n0_ := Aside0.mk (Kd.S_below (Kd.S_elderB (by (with_reducible repeat (first | apply Kd.S_alloc | apply Kd.S_drewN | apply Kd.S_drew)); exact HO_3.out) gb218 (Nat.le_of_eq hg.symm)) hb); have n1_ := Aside0.mk (below_step bO hb); have n2_ := Aside0.mk (hbox); have n3_ := Aside0.mk ((by rw [hg]; exact (below_size bO) : w.heap.size ≤ gb218)); have n4_ := Aside0.mk ((by rw [hg]; exact (below_size bO) : w.heap.size ≤ gb218)); clear HO_3; clear HB; have HO_3 := n0_; have HB := n1_; have BK218 := n2_; have GW218 := n3_; have GE218 := n4_; clear n0_ n1_ n2_ n3_ n4_; clear hb hbox hg; have hcz8_0 : w7.cell? ⟨gb218, 0, none⟩ = some (.bool false) := (blk_cell BK218.out 0).trans rfl; have hcz8_1 : w7.cell? ⟨gb218, 1, none⟩ = some (.int .i64 0) := (blk_cell BK218.out 1).trans rfl; have hcz8_2 : w7.cell? ⟨gb218, 2, none⟩ = some (.string (⟨#[]⟩ : ByteArray)) := (blk_cell BK218.out 2).trans rfl; have hcz8_3 : w7.cell? ⟨gb218, 3, none⟩ = some (.slice none 0 0) := (blk_cell BK218.out 3).trans rfl; have hcz8_4 : w7.cell? ⟨gb218, 4, none⟩ = some (.slice none 0 0) := (blk_cell BK218.out 4).trans rfl; have hfz8_0 := blk_frozen BK218.out 0; have hfz8_1 := blk_frozen BK218.out 1; have hfz8_2 := blk_frozen BK218.out 2; have hfz8_3 := blk_frozen BK218.out 3; have hfz8_4 := blk_frozen BK218.out 4))
   have n0_ : Aside0 (Kd.S k46 46 ((((((w7.setCell ⟨gb218, 0, none⟩ (.bool ((rd_T46 l0 x4_1).f0))).setCell ⟨gb218, 1, none⟩ (.int .i64 ((rd_T46 l0 x4_1).f1))).setCell ⟨gb218, 2, none⟩ (.string ((rd_T46 l0 x4_1).f2))).setCell ⟨gb218, 3, none⟩ (.slice A217_3 ((rd_T46 l0 x4_1).f3).length c217_3)).setCell ⟨gb218, 4, none⟩ (.slice A217_4 ((rd_T46 l0 x4_1).f4).length c217_4)).setCell ⟨gb218, 3, none⟩ (.slice none 0 0)) w.heap.size (fun k_ => k_ ≠ gb218) u3 x3_1) := ⟨by (with_reducible repeat (first | apply Kd.S_alloc | apply Kd.S_drewN | apply Kd.S_drew)); exact Kd.S_mono (Kd.S_far (p := ⟨gb218, 3, none⟩) (Kd.S_far (p := ⟨gb218, 4, none⟩) (Kd.S_far (p := ⟨gb218, 3, none⟩) (Kd.S_far (p := ⟨gb218, 2, none⟩) (Kd.S_far (p := ⟨gb218, 1, none⟩) (Kd.S_far (p := ⟨gb218, 0, none⟩) (Kd.S_mono HO_3.out (fun k_ hk => (⟨hk, hk.2⟩ : _ ∧ k_ ≠ gb218))) (fun _ hk => hk.2) (.bool ((rd_T46 l0 x4_1).f0))) (fun _ hk => hk.2) (.int .i64 ((rd_T46 l0 x4_1).f1))) (fun _ hk => hk.2) (.string ((rd_T46 l0 x4_1).f2))) (fun _ hk => hk.2) (.slice A217_3 ((rd_T46 l0 x4_1).f3).length c217_3)) (fun _ hk => hk.2) (.slice A217_4 ((rd_T46 l0 x4_1).f4).length c217_4)) (fun _ hk => hk.2) (.slice none 0 0)) (fun _ hk => hk.1.2)⟩
   have n1_ : Aside0 (((((((w7.setCell ⟨gb218, 0, none⟩ (.bool ((rd_T46 l0 x4_1).f0))).setCell ⟨gb218, 1, none⟩ (.int .i64 ((rd_T46 l0 x4_1).f1))).setCell ⟨gb218, 2, none⟩ (.string ((rd_T46 l0 x4_1).f2))).setCell ⟨gb218, 3, none⟩ (.slice A217_3 ((rd_T46 l0 x4_1).f3).length c217_3)).setCell ⟨gb218, 4, none⟩ (.slice A217_4 ((rd_T46 l0 x4_1).f4).length c217_4)).setCell ⟨gb218, 3, none⟩ (.slice none 0 0)).heap[gb218]? = some (.cells #[.bool ((rd_T46 l0 x4_1).f0), .int .i64 ((rd_T46 l0 x4_1).f1), .string ((rd_T46 l0 x4_1).f2), .slice none 0 0, .slice A217_4 ((rd_T46 l0 x4_1).f4).length c217_4] 46 (0, 0))) := ⟨by (with_reducible repeat (first | refine blk_drewN ?_ _ | refine blk_drew ?_ | refine blk_alloc ?_ _)); refine blk_put (cs := #[.bool ((rd_T46 l0 x4_1).f0), .int .i64 ((rd_T46 l0 x4_1).f1), .string ((rd_T46 l0 x4_1).f2), .slice A217_3 ((rd_T46 l0 x4_1).f3).length c217_3, .slice A217_4 ((rd_T46 l0 x4_1).f4).length c217_4]) ?_ 3 _ rfl; (with_reducible repeat (first | refine blk_drewN ?_ _ | refine blk_drew ?_ | refine blk_alloc ?_ _)); refine blk_put (cs := #[.bool ((rd_T46 l0 x4_1).f0), .int .i64 ((rd_T46 l0 x4_1).f1), .string ((rd_T46 l0 x4_1).f2), .slice A217_3 ((rd_T46 l0 x4_1).f3).length c217_3, .slice none 0 0]) ?_ 4 _ rfl; (with_reducible repeat (first | refine blk_drewN ?_ _ | refine blk_drew ?_ | refine blk_alloc ?_ _)); refine blk_put (cs := #[.bool ((rd_T46 l0 x4_1).f0), .int .i64 ((rd_T46 l0 x4_1).f1), .string ((rd_T46 l0 x4_1).f2), .slice none 0 0, .slice none 0 0]) ?_ 3 _ rfl; (with_reducible repeat (first | refine blk_drewN ?_ _ | refine blk_drew ?_ | refine blk_alloc ?_ _)); refine blk_put (cs := #[.bool ((rd_T46 l0 x4_1).f0), .int .i64 ((rd_T46 l0 x4_1).f1), .string (⟨#[]⟩ : ByteArray), .slice none 0 0, .slice none 0 0]) ?_ 2 _ rfl; (with_reducible repeat (first | refine blk_drewN ?_ _ | refine blk_drew ?_ | refine blk_alloc ?_ _)); refine blk_put (cs := #[.bool ((rd_T46 l0 x4_1).f0), .int .i64 0, .string (⟨#[]⟩ : ByteArray), .slice none 0 0, .slice none 0 0]) ?_ 1 _ rfl; (with_reducible repeat (first | refine blk_drewN ?_ _ | refine blk_drew ?_ | refine blk_alloc ?_ _)); refine blk_put (cs := #[.bool false, .int .i64 0, .string (⟨#[]⟩ : ByteArray), .slice none 0 0, .slice none 0 0]) ?_ 0 _ rfl; (with_reducible repeat (first | refine blk_drewN ?_ _ | refine blk_drew ?_ | refine blk_alloc ?_ _)); exact BK218.out⟩
   have n2_ : Aside0 (Below w.heap.size w ((((((w7.setCell ⟨gb218, 0, none⟩ (.bool ((rd_T46 l0 x4_1).f0))).setCell ⟨gb218, 1, none⟩ (.int .i64 ((rd_T46 l0 x4_1).f1))).setCell ⟨gb218, 2, none⟩ (.string ((rd_T46 l0 x4_1).f2))).setCell ⟨gb218, 3, none⟩ (.slice A217_3 ((rd_T46 l0 x4_1).f3).length c217_3)).setCell ⟨gb218, 4, none⟩ (.slice A217_4 ((rd_T46 l0 x4_1).f4).length c217_4)).setCell ⟨gb218, 3, none⟩ (.slice none 0 0))) := ⟨bO⟩
   (try clear HO_3); (try clear BK218); (try clear HB); generalize ((((((w7.setCell ⟨gb218, 0, none⟩ (.bool ((rd_T46 l0 x4_1).f0))).setCell ⟨gb218, 1, none⟩ (.int .i64 ((rd_T46 l0 x4_1).f1))).setCell ⟨gb218, 2, none⟩ (.string ((rd_T46 l0 x4_1).f2))).setCell ⟨gb218, 3, none⟩ (.slice A217_3 ((rd_T46 l0 x4_1).f3).length c217_3)).setCell ⟨gb218, 4, none⟩ (.slice A217_4 ((rd_T46 l0 x4_1).f4).length c217_4)).setCell ⟨gb218, 3, none⟩ (.slice none 0 0)) = w9 at n0_ n1_ n2_ ⊢; have HO_3 := n0_; have BK218 := n1_; have HB := n2_; clear n0_ n1_ n2_; have n0_ := Aside0.mk (Kd.S_drew HO_3.out)
   have n1_ := Aside0.mk (blk_drew BK218.out); have n2_ := Aside0.mk (below_drew1 HB.out); clear HO_3; clear BK218; clear HB; have HO_3 := n0_; have BK218 := n1_; have HB := n2_; clear n0_ n1_ n2_
   have p219 : 0 ≤ (x4_1 : Int) := of_decide_eq_true asm
   have q219 : x4_1 < (l0.length : Int) := of_decide_eq_true asm
   obtain ⟨ad219, A219_3, c219_3, A219_4, c219_4, e219, hx219_0, hx219_1, hx219_2, hx219_3, hx219_4, hl219_3, hi219_3, hl219_4, hi219_4⟩ := at_T46 HR0.out x4_1 p219 q219
   have hw219_4 := hx219_4; have hw219_3 := hx219_3; have hw219_2 := hx219_2; have hw219_1 := hx219_1; have hw219_0 := hx219_0
   obtain rfl : ad217 = ad219 := (by injection e219)
   replace hx219_0 := bC HB hx219_0
   replace hx219_1 := bC HB hx219_1
   replace hx219_2 := bC HB hx219_2
   replace hx219_3 := bC HB hx219_3
   replace hx219_4 := bC HB hx219_4
   have HR219_3 := Aside0.mk hi219_3; have HC219_3 := Aside0.mk hl219_3; clear hi219_3 hl219_3; have HR219_4 := Aside0.mk hi219_4; have HC219_4 := Aside0.mk hl219_4; clear hi219_4 hl219_4; replace p219 := eq_true p219; replace q219 := eq_true q219
   refine start_ (n := 10) (S := fun w' => w'.cell? ⟨gb218, 0, none⟩ = some (.bool ((rd_T46 l0 x4_1).f0)) ∧ w'.cell? ⟨gb218, 1, none⟩ = some (.int .i64 ((rd_T46 l0 x4_1).f1)) ∧ w'.cell? ⟨gb218, 2, none⟩ = some (.string ((rd_T46 l0 x4_1).f2)) ∧ w'.cell? ⟨gb218, 3, none⟩ = some (.slice none 0 0) ∧ w'.cell? ⟨gb218, 4, none⟩ = some (.slice A217_4 ((rd_T46 l0 x4_1).f4).length c217_4) ∧ w'.cell? (ad217.add ((x4_1).toNat * 5)) = some (.bool ((rd_T46 l0 x4_1).f0)) ∧ w'.cell? ⟨(ad217.add ((x4_1).toNat * 5)).block, (ad217.add ((x4_1).toNat * 5)).off + 1, none⟩ = some (.int .i64 ((rd_T46 l0 x4_1).f1)) ∧ w'.cell? ⟨(ad217.add ((x4_1).toNat * 5)).block, (ad217.add ((x4_1).toNat * 5)).off + 2, none⟩ = some (.string ((rd_T46 l0 x4_1).f2)) ∧ w'.cell? ⟨(ad217.add ((x4_1).toNat * 5)).block, (ad217.add ((x4_1).toNat * 5)).off + 3, none⟩ = some (.slice A219_3 ((rd_T46 l0 x4_1).f3).length c219_3) ∧ w'.cell? ⟨(ad217.add ((x4_1).toNat * 5)).block, (ad217.add ((x4_1).toNat * 5)).off + 4, none⟩ = some (.slice A219_4 ((rd_T46 l0 x4_1).f4).length c219_4)) (ds := [9]) (bA 10 0) (by kernel_rfl) rfl rfl ⟨(blk_cell BK218.out 0).trans rfl, (blk_cell BK218.out 1).trans rfl, (blk_cell BK218.out 2).trans rfl, (blk_cell BK218.out 3).trans rfl, (blk_cell BK218.out 4).trans rfl, (bC HB hw219_0), (bC HB hw219_1), (bC HB hw219_2), (bC HB hw219_3), (bC HB hw219_4)⟩ (fun hHeld => ?_); refine with_tabW belfryref11_Lent.tab7 belfryref11_Lent.bits7 (fun HT_ HW_ => ?_)
   generalize w9.drew = w10 at HO_3 BK218 HB HR219_3 HR219_4 hx219_0 hx219_1 hx219_2 hx219_3 hx219_4 hHeld ⊢
   refine purA 0 (some 17) (bA 10 1) HT_ ?_
   refine purA 2 (some 19) (bA 10 5) HT_ ?_
   refine purA 3 (some 20) (bA 10 13) HT_ ?_
   refine purA 4 (some 21) (bA 10 29) HT_ ?_
   refine purA 5 (some 22) (bA 10 61) HT_ ?_
   refine take_ (i := 1) (N := some 18) (v := ?_) (a' := ?_) (bA 10 63) rfl rfl (take_ofW HT_.out HW_.out (by kernel_rfl)) (fun _ _ _ h => h) (Or.inl ⟨by rfl, ?_⟩) hHeld ?_ ?_
   rotate_left
   ·
    rintro w' ⟨s0, s1, s2, s3, s4, s5, s6, s7, s8, s9⟩
    go_simp; with_reducible rfl
   rotate_left
   · simp only [Act.put, List.setIfInBounds_toArray, List.set_cons_zero, List.set_cons_succ, i64_w, i32_w]; rfl
   refine take_ (i := 6) (N := some 23) (v := ?_) (a' := ?_) (bA 10 127) rfl rfl (take_ofW HT_.out HW_.out (by kernel_rfl)) (fun _ _ _ h => h) (Or.inl ⟨by rfl, ?_⟩) hHeld ?_ ?_
   rotate_left
   ·
    rintro w' ⟨s0, s1, s2, s3, s4, s5, s6, s7, s8, s9⟩
    go_simp; with_reducible rfl
   rotate_left
   · simp only [Act.put, List.setIfInBounds_toArray, List.set_cons_zero, List.set_cons_succ, i64_w, i32_w]; rfl
   refine one_ (i := 7) (N := some 24) (bA 10 255) rfl rfl (one_of HT_.out (by kernel_rfl)) (by decide) (fun K hK => ?_)
   refine Kd.R_append_rows_step k33 (w0 := w) w.heap.size (by rfl) (.tmp 18) (.tmp 23) 28 33 (.agg #[(.int .i64 0), (.string ⟨#[]⟩), (.string ⟨#[]⟩)]) 40 rfl Tryz.underlying28 info33 rfl (by decide) (by omega) (.slice none 0 0) ([] : List (S33)) ((rd_T46 l0 x4_1).f3) _ _ _ (fun _ => True) (fun _ => False) rfl rfl ?aO ?aR (fun _ _ h => h) (fun _ h => h.elim) ?aF ?aB ?aS ?aL ?_
   (case aR => repeat (first | exact (Kd.C_below HR219_3.out HB.out) | (with_reducible refine Kd.C_alloc ?_ _) | (with_reducible refine Kd.C_drewN ?_ _) | (with_reducible refine Kd.C_drew ?_)))
   (case aB => exact bO)
   (case aF => exact (fun _ _ => trivial))
   (case aO => exact ((Kd.R_nil _ _ _ _ (fun _ => True))))
   (case aS => exact (below_size bO))
   (case aL => have := LMc4.out; omega)
   intro v221 w11 ho hb hg hat; rw [← Ny220.out] at ho
   have n0_ := Aside0.mk (Kd.S_after (Kd.S_apart_nil (by (with_reducible repeat (first | apply Kd.S_alloc | apply Kd.S_drewN | apply Kd.S_drew)); exact HO_3.out)) hg hat)
   have n1_ := Aside0.mk (blk_grown (g := gb218) (o := .cells #[.bool ((rd_T46 l0 x4_1).f0), .int .i64 ((rd_T46 l0 x4_1).f1), .string ((rd_T46 l0 x4_1).f2), .slice none 0 0, .slice A217_4 ((rd_T46 l0 x4_1).f4).length c217_4] 46 (0, 0)) bK hg (by simp [Value.ownBlock])); have n2_ := Aside0.mk (hb); have n3_ := Aside0.mk (ho); clear HO_3; clear BK218; clear HB; have HO_3 := n0_; have BK218 := n1_; have HB := n2_; have HO222 := n3_; clear n0_ n1_ n2_ n3_; clear ho hb hg hat
   obtain ⟨Ao12, co12, eo12⟩ := Kd.R_slice HO222.out
   (first | subst eo12 | (injection eo12 with f1_ f2_ f3_; have f4_ := f1_.symm; have f5_ := f3_.symm; clear f1_ f2_ f3_; subst f4_; subst f5_))
   refine hK.out _ _ ⟨(blk_cell BK218.out 0).trans rfl, (blk_cell BK218.out 1).trans rfl, (blk_cell BK218.out 2).trans rfl, (blk_cell BK218.out 3).trans rfl, (blk_cell BK218.out 4).trans rfl, (bC HB hw219_0 :), (bC HB hw219_1 :), (bC HB hw219_2 :), (bC HB hw219_3 :), (bC HB hw219_4 :)⟩ (fun hHeld => ?_)
   clear hK K
   refine norm_ (a' := ?_) ?_ ?_
   rotate_left
   ·
    show Act.put _ (some 24) _ = _
    simp only [Act.put, List.setIfInBounds_toArray, List.set_cons_zero, List.set_cons_succ, i64_w, i32_w]; rfl
   refine purA 8 (some 25) (bA 10 511) HT_ ?_
   refine last_ (i := 9) (N := none) (bA 10 1023) rfl rfl (one_of HT_.out (by kernel_rfl)) (by decide) (fun K hK => ?_)
   have hs13 : w11.cell? ⟨gb218, 3, none⟩ = some (.slice none 0 0) := (blk_cell BK218.out 3).trans rfl
   have hfs13 := blk_frozen BK218.out 3
   refine skip_ (w1 := ?_) (by rfl) rfl ?_ ?_
   rotate_left
   · go_simp; rfl
   refine hK.out _ _ ?_
   clear hK K
   refine done_ (done_of HT_.out (by kernel_rfl)) ?_
   have hcz14_0 : w11.cell? ⟨gb218, 0, none⟩ = some (.bool ((rd_T46 l0 x4_1).f0)) := (blk_cell BK218.out 0).trans rfl
   have hcz14_1 : w11.cell? ⟨gb218, 1, none⟩ = some (.int .i64 ((rd_T46 l0 x4_1).f1)) := (blk_cell BK218.out 1).trans rfl
   have hcz14_2 : w11.cell? ⟨gb218, 2, none⟩ = some (.string ((rd_T46 l0 x4_1).f2)) := (blk_cell BK218.out 2).trans rfl
   have hcz14_3 : w11.cell? ⟨gb218, 3, none⟩ = some (.slice none 0 0) := (blk_cell BK218.out 3).trans rfl
   have hcz14_4 : w11.cell? ⟨gb218, 4, none⟩ = some (.slice A217_4 ((rd_T46 l0 x4_1).f4).length c217_4) := (blk_cell BK218.out 4).trans rfl
   have hfz14_0 := blk_frozen BK218.out 0; have hfz14_1 := blk_frozen BK218.out 1; have hfz14_2 := blk_frozen BK218.out 2; have hfz14_3 := blk_frozen BK218.out 3; have hfz14_4 := blk_frozen BK218.out 4
   try go_wp2
   have n0_ : Aside0 (Kd.S k46 46 ((w11.setCell ⟨gb218, 3, none⟩ (.slice Ao12 y220.length co12)).setCell ⟨gb218, 4, none⟩ (.slice none 0 0)) w.heap.size (fun k_ => some k_ ≠ (.slice Ao12 y220.length co12 : Value).ownBlock ∧ k_ ≠ gb218) u3 x3_1) := ⟨by (with_reducible repeat (first | apply Kd.S_alloc | apply Kd.S_drewN | apply Kd.S_drew)); exact Kd.S_mono (Kd.S_far (p := ⟨gb218, 4, none⟩) (Kd.S_far (p := ⟨gb218, 3, none⟩) (Kd.S_mono HO_3.out (fun k_ hk => (⟨hk, hk.1⟩ : _ ∧ k_ ≠ gb218))) (fun _ hk => hk.2) (.slice Ao12 y220.length co12)) (fun _ hk => hk.2) (.slice none 0 0)) (fun _ hk => ⟨hk.1.2, hk.1.1⟩)⟩
   have n1_ : Aside0 (Kd.R k33 33 ((w11.setCell ⟨gb218, 3, none⟩ (.slice Ao12 y220.length co12)).setCell ⟨gb218, 4, none⟩ (.slice none 0 0)) w.heap.size (fun _ => True) (.slice Ao12 y220.length co12) y220) := ⟨by (with_reducible repeat (first | apply Kd.R_alloc | apply Kd.R_drewN | apply Kd.R_drew)); exact Kd.R_mono (Kd.R_far (p := ⟨gb218, 4, none⟩) (Kd.R_far (p := ⟨gb218, 3, none⟩) (Kd.R_types HO222.out BK218.out (by decide)) (fun _ hk => hk.2) (.slice Ao12 y220.length co12)) (fun _ hk => hk.2) (.slice none 0 0)) (fun _ hk => trivial)⟩
   have n2_ : Aside0 (((w11.setCell ⟨gb218, 3, none⟩ (.slice Ao12 y220.length co12)).setCell ⟨gb218, 4, none⟩ (.slice none 0 0)).heap[gb218]? = some (.cells #[.bool ((rd_T46 l0 x4_1).f0), .int .i64 ((rd_T46 l0 x4_1).f1), .string ((rd_T46 l0 x4_1).f2), .slice Ao12 y220.length co12, .slice none 0 0] 46 (0, 0))) := ⟨by (with_reducible repeat (first | refine blk_drewN ?_ _ | refine blk_drew ?_ | refine blk_alloc ?_ _)); refine blk_put (cs := #[.bool ((rd_T46 l0 x4_1).f0), .int .i64 ((rd_T46 l0 x4_1).f1), .string ((rd_T46 l0 x4_1).f2), .slice Ao12 y220.length co12, .slice A217_4 ((rd_T46 l0 x4_1).f4).length c217_4]) ?_ 4 _ rfl; (with_reducible repeat (first | refine blk_drewN ?_ _ | refine blk_drew ?_ | refine blk_alloc ?_ _)); refine blk_put (cs := #[.bool ((rd_T46 l0 x4_1).f0), .int .i64 ((rd_T46 l0 x4_1).f1), .string ((rd_T46 l0 x4_1).f2), .slice none 0 0, .slice A217_4 ((rd_T46 l0 x4_1).f4).length c217_4]) ?_ 3 _ rfl; (with_reducible repeat (first | refine blk_drewN ?_ _ | refine blk_drew ?_ | refine blk_alloc ?_ _)); exact BK218.out⟩
   have n3_ : Aside0 (Below w.heap.size w ((w11.setCell ⟨gb218, 3, none⟩ (.slice Ao12 y220.length co12)).setCell ⟨gb218, 4, none⟩ (.slice none 0 0))) := ⟨bO⟩
   (try clear HO_3); (try clear HO222); (try clear BK218); (try clear HB); generalize ((w11.setCell ⟨gb218, 3, none⟩ (.slice Ao12 y220.length co12)).setCell ⟨gb218, 4, none⟩ (.slice none 0 0)) = w15 at n0_ n1_ n2_ n3_ ⊢; have HO_3 := n0_; have HO222 := n1_; have BK218 := n2_; have HB := n3_; clear n0_ n1_ n2_ n3_; have n0_ := Aside0.mk (Kd.S_drew HO_3.out); have n1_ := Aside0.mk (Kd.R_drew HO222.out); have n2_ := Aside0.mk (blk_drew BK218.out); have n3_ := Aside0.mk (below_drew1 HB.out); clear HO_3; clear HO222; clear BK218; clear HB; have HO_3 := n0_; have HO222 := n1_; have BK218 := n2_
   have HB := n3_; clear n0_ n1_ n2_ n3_
   have p223 : 0 ≤ (x4_1 : Int) := of_decide_eq_true asm
   have q223 : x4_1 < (l0.length : Int) := of_decide_eq_true asm
   obtain ⟨ad223, A223_3, c223_3, A223_4, c223_4, e223, hx223_0, hx223_1, hx223_2, hx223_3, hx223_4, hl223_3, hi223_3, hl223_4, hi223_4⟩ := at_T46 HR0.out x4_1 p223 q223
   have hw223_4 := hx223_4; have hw223_3 := hx223_3; have hw223_2 := hx223_2; have hw223_1 := hx223_1; have hw223_0 := hx223_0
   obtain rfl : ad217 = ad223 := (by injection e223)
   replace hx223_0 := bC HB hx223_0
   replace hx223_1 := bC HB hx223_1
   replace hx223_2 := bC HB hx223_2
   replace hx223_3 := bC HB hx223_3
   replace hx223_4 := bC HB hx223_4
   have HR223_3 := Aside0.mk hi223_3; have HC223_3 := Aside0.mk hl223_3; clear hi223_3 hl223_3; have HR223_4 := Aside0.mk hi223_4; have HC223_4 := Aside0.mk hl223_4; clear hi223_4 hl223_4; replace p223 := eq_true p223; replace q223 := eq_true q223
   refine start_ (n := 10) (S := fun w' => w'.cell? ⟨gb218, 0, none⟩ = some (.bool ((rd_T46 l0 x4_1).f0)) ∧ w'.cell? ⟨gb218, 1, none⟩ = some (.int .i64 ((rd_T46 l0 x4_1).f1)) ∧ w'.cell? ⟨gb218, 2, none⟩ = some (.string ((rd_T46 l0 x4_1).f2)) ∧ w'.cell? ⟨gb218, 3, none⟩ = some (.slice Ao12 y220.length co12) ∧ w'.cell? ⟨gb218, 4, none⟩ = some (.slice none 0 0) ∧ w'.cell? (ad217.add ((x4_1).toNat * 5)) = some (.bool ((rd_T46 l0 x4_1).f0)) ∧ w'.cell? ⟨(ad217.add ((x4_1).toNat * 5)).block, (ad217.add ((x4_1).toNat * 5)).off + 1, none⟩ = some (.int .i64 ((rd_T46 l0 x4_1).f1)) ∧ w'.cell? ⟨(ad217.add ((x4_1).toNat * 5)).block, (ad217.add ((x4_1).toNat * 5)).off + 2, none⟩ = some (.string ((rd_T46 l0 x4_1).f2)) ∧ w'.cell? ⟨(ad217.add ((x4_1).toNat * 5)).block, (ad217.add ((x4_1).toNat * 5)).off + 3, none⟩ = some (.slice A223_3 ((rd_T46 l0 x4_1).f3).length c223_3) ∧ w'.cell? ⟨(ad217.add ((x4_1).toNat * 5)).block, (ad217.add ((x4_1).toNat * 5)).off + 4, none⟩ = some (.slice A223_4 ((rd_T46 l0 x4_1).f4).length c223_4)) (ds := [9]) (bA 10 0) (by kernel_rfl) rfl rfl ⟨(blk_cell BK218.out 0).trans rfl, (blk_cell BK218.out 1).trans rfl, (blk_cell BK218.out 2).trans rfl, (blk_cell BK218.out 3).trans rfl, (blk_cell BK218.out 4).trans rfl, (bC HB hw223_0), (bC HB hw223_1), (bC HB hw223_2), (bC HB hw223_3), (bC HB hw223_4)⟩ (fun hHeld => ?_); refine with_tabW belfryref11_Lent.tab9 belfryref11_Lent.bits9 (fun HT_ HW_ => ?_)
   generalize w15.drew = w16 at HO_3 HO222 BK218 HB HR223_3 HR223_4 hx223_0 hx223_1 hx223_2 hx223_3 hx223_4 hHeld ⊢
   refine purA 0 (some 27) (bA 10 1) HT_ ?_
   refine purA 2 (some 29) (bA 10 5) HT_ ?_
   refine purA 3 (some 30) (bA 10 13) HT_ ?_
   refine purA 4 (some 31) (bA 10 29) HT_ ?_
   refine purA 5 (some 32) (bA 10 61) HT_ ?_
   refine take_ (i := 1) (N := some 28) (v := ?_) (a' := ?_) (bA 10 63) rfl rfl (take_ofW HT_.out HW_.out (by kernel_rfl)) (fun _ _ _ h => h) (Or.inl ⟨by rfl, ?_⟩) hHeld ?_ ?_
   rotate_left
   ·
    rintro w' ⟨s0, s1, s2, s3, s4, s5, s6, s7, s8, s9⟩
    go_simp; with_reducible rfl
   rotate_left
   · simp only [Act.put, List.setIfInBounds_toArray, List.set_cons_zero, List.set_cons_succ, i64_w, i32_w]; rfl
   refine take_ (i := 6) (N := some 33) (v := ?_) (a' := ?_) (bA 10 127) rfl rfl (take_ofW HT_.out HW_.out (by kernel_rfl)) (fun _ _ _ h => h) (Or.inl ⟨by rfl, ?_⟩) hHeld ?_ ?_
   rotate_left
   ·
    rintro w' ⟨s0, s1, s2, s3, s4, s5, s6, s7, s8, s9⟩
    go_simp; with_reducible rfl
   rotate_left
   · simp only [Act.put, List.setIfInBounds_toArray, List.set_cons_zero, List.set_cons_succ, i64_w, i32_w]; rfl
   refine one_ (i := 7) (N := some 34) (bA 10 255) rfl rfl (one_of HT_.out (by kernel_rfl)) (by decide) (fun K hK => ?_)
   refine Kd.R_append_rows_step Kd.string (w0 := w) w.heap.size (by rfl) (.tmp 28) (.tmp 33) 29 9 (.string ⟨#[]⟩) 16 rfl Tryz.underlying29 info9 rfl (by decide) (by omega) (.slice none 0 0) ([] : List ByteArray) ((rd_T46 l0 x4_1).f4) _ _ _ (fun _ => True) (fun _ => False) rfl rfl ?aO ?aR (fun _ _ h => h) (fun _ h => h.elim) ?aF ?aB ?aS ?aL ?_
   (case aR => repeat (first | exact (Kd.C_below HR223_4.out HB.out) | (with_reducible refine Kd.C_alloc ?_ _) | (with_reducible refine Kd.C_drewN ?_ _) | (with_reducible refine Kd.C_drew ?_)))
   (case aB => exact bO)
   (case aF => exact (fun _ _ => trivial))
   (case aO => exact ((Kd.R_nil _ _ _ _ (fun _ => True))))
   (case aS => exact (below_size bO))
   (case aL => have := LMc5.out; omega)
   intro v225 w17 ho hb hg hat; rw [← Ny224.out] at ho
   have n0_ := Aside0.mk (Kd.S_after (Kd.S_apart_nil (by (with_reducible repeat (first | apply Kd.S_alloc | apply Kd.S_drewN | apply Kd.S_drew)); exact HO_3.out)) hg hat)
   have n1_ := Aside0.mk (blk_grown (g := gb218) (o := .cells #[.bool ((rd_T46 l0 x4_1).f0), .int .i64 ((rd_T46 l0 x4_1).f1), .string ((rd_T46 l0 x4_1).f2), .slice Ao12 y220.length co12, .slice none 0 0] 46 (0, 0)) bK hg (by simp [Value.ownBlock]))
   have n2_ := Aside0.mk (Kd.R_grown (by (with_reducible repeat (first | apply Kd.R_alloc | apply Kd.R_drewN | apply Kd.R_drew)); exact HO222.out) hg (fun _ _ => by simp [Value.ownBlock]))
   have n3_ := Aside0.mk (hb); have n4_ := Aside0.mk (ho); clear HO_3; clear BK218; clear HO222; clear HB; have HO_3 := n0_; have BK218 := n1_; have HO222 := n2_; have HB := n3_; have HO226 := n4_; clear n0_ n1_ n2_ n3_ n4_; clear ho hb hg hat
   obtain ⟨Ao18, co18, eo18⟩ := Kd.R_slice HO226.out
   (first | subst eo18 | (injection eo18 with f1_ f2_ f3_; have f4_ := f1_.symm; have f5_ := f3_.symm; clear f1_ f2_ f3_; subst f4_; subst f5_))
   refine hK.out _ _ ⟨(blk_cell BK218.out 0).trans rfl, (blk_cell BK218.out 1).trans rfl, (blk_cell BK218.out 2).trans rfl, (blk_cell BK218.out 3).trans rfl, (blk_cell BK218.out 4).trans rfl, (bC HB hw223_0 :), (bC HB hw223_1 :), (bC HB hw223_2 :), (bC HB hw223_3 :), (bC HB hw223_4 :)⟩ (fun hHeld => ?_)
   clear hK K
   refine norm_ (a' := ?_) ?_ ?_
   rotate_left
   ·
    show Act.put _ (some 34) _ = _
    simp only [Act.put, List.setIfInBounds_toArray, List.set_cons_zero, List.set_cons_succ, i64_w, i32_w]; rfl
   refine purA 8 (some 35) (bA 10 511) HT_ ?_
   refine last_ (i := 9) (N := none) (bA 10 1023) rfl rfl (one_of HT_.out (by kernel_rfl)) (by decide) (fun K hK => ?_)
   have hs19 : w17.cell? ⟨gb218, 4, none⟩ = some (.slice none 0 0) := (blk_cell BK218.out 4).trans rfl
   have hfs19 := blk_frozen BK218.out 4
   refine skip_ (w1 := ?_) (by rfl) rfl ?_ ?_
   rotate_left
   · go_simp; rfl
   refine hK.out _ _ ?_
   clear hK K
   refine done_ (done_of HT_.out (by kernel_rfl)) ?_
   have n0_ : Aside0 (Kd.S k46 46 (w17.setCell ⟨gb218, 4, none⟩ (.slice Ao18 y224.length co18)) w.heap.size (fun k_ => some k_ ≠ (.slice Ao12 y220.length co12 : Value).ownBlock ∧ some k_ ≠ (.slice Ao18 y224.length co18 : Value).ownBlock ∧ k_ ≠ gb218) u3 x3_1) := ⟨by (with_reducible repeat (first | apply Kd.S_alloc | apply Kd.S_drewN | apply Kd.S_drew)); exact Kd.S_mono (Kd.S_far (p := ⟨gb218, 4, none⟩) (Kd.S_mono HO_3.out (fun k_ hk => (⟨hk, hk.1.2⟩ : _ ∧ k_ ≠ gb218))) (fun _ hk => hk.2) (.slice Ao18 y224.length co18)) (fun _ hk => ⟨hk.1.1.1, ⟨hk.1.2, hk.1.1.2⟩⟩)⟩
   have n1_ : Aside0 (Kd.R k33 33 (w17.setCell ⟨gb218, 4, none⟩ (.slice Ao18 y224.length co18)) w.heap.size (fun _ => True) (.slice Ao12 y220.length co12) y220) := ⟨by (with_reducible repeat (first | apply Kd.R_alloc | apply Kd.R_drewN | apply Kd.R_drew)); exact Kd.R_mono (Kd.R_far (p := ⟨gb218, 4, none⟩) (Kd.R_types HO222.out BK218.out (by decide)) (fun _ hk => hk.2) (.slice Ao18 y224.length co18)) (fun _ hk => trivial)⟩
   have n2_ : Aside0 (Kd.R Kd.string 9 (w17.setCell ⟨gb218, 4, none⟩ (.slice Ao18 y224.length co18)) w.heap.size (fun _ => True) (.slice Ao18 y224.length co18) y224) := ⟨by (with_reducible repeat (first | apply Kd.R_alloc | apply Kd.R_drewN | apply Kd.R_drew)); exact Kd.R_mono (Kd.R_far (p := ⟨gb218, 4, none⟩) (Kd.R_types HO226.out BK218.out (by decide)) (fun _ hk => hk.2) (.slice Ao18 y224.length co18)) (fun _ hk => trivial)⟩
   have n3_ : Aside0 ((w17.setCell ⟨gb218, 4, none⟩ (.slice Ao18 y224.length co18)).heap[gb218]? = some (.cells #[.bool ((rd_T46 l0 x4_1).f0), .int .i64 ((rd_T46 l0 x4_1).f1), .string ((rd_T46 l0 x4_1).f2), .slice Ao12 y220.length co12, .slice Ao18 y224.length co18] 46 (0, 0))) := ⟨by (with_reducible repeat (first | refine blk_drewN ?_ _ | refine blk_drew ?_ | refine blk_alloc ?_ _)); refine blk_put (cs := #[.bool ((rd_T46 l0 x4_1).f0), .int .i64 ((rd_T46 l0 x4_1).f1), .string ((rd_T46 l0 x4_1).f2), .slice Ao12 y220.length co12, .slice none 0 0]) ?_ 4 _ rfl; (with_reducible repeat (first | refine blk_drewN ?_ _ | refine blk_drew ?_ | refine blk_alloc ?_ _)); exact BK218.out⟩
   have n4_ : Aside0 (Below w.heap.size w (w17.setCell ⟨gb218, 4, none⟩ (.slice Ao18 y224.length co18))) := ⟨bO⟩
   (try clear HO_3); (try clear HO222); (try clear HO226); (try clear BK218); (try clear HB); generalize (w17.setCell ⟨gb218, 4, none⟩ (.slice Ao18 y224.length co18)) = w20 at n0_ n1_ n2_ n3_ n4_ ⊢; have HO_3 := n0_; have HO222 := n1_; have HO226 := n2_; have BK218 := n3_; have HB := n4_; clear n0_ n1_ n2_ n3_ n4_
   have hcz21_0 : w20.cell? ⟨gb218, 0, none⟩ = some (.bool ((rd_T46 l0 x4_1).f0)) := (blk_cell BK218.out 0).trans rfl
   have hcz21_1 : w20.cell? ⟨gb218, 1, none⟩ = some (.int .i64 ((rd_T46 l0 x4_1).f1)) := (blk_cell BK218.out 1).trans rfl
   have hcz21_2 : w20.cell? ⟨gb218, 2, none⟩ = some (.string ((rd_T46 l0 x4_1).f2)) := (blk_cell BK218.out 2).trans rfl
   have hcz21_3 : w20.cell? ⟨gb218, 3, none⟩ = some (.slice Ao12 y220.length co12) := (blk_cell BK218.out 3).trans rfl
   have hcz21_4 : w20.cell? ⟨gb218, 4, none⟩ = some (.slice Ao18 y224.length co18) := (blk_cell BK218.out 4).trans rfl
   have hfz21_0 := blk_frozen BK218.out 0; have hfz21_1 := blk_frozen BK218.out 1; have hfz21_2 := blk_frozen BK218.out 2; have hfz21_3 := blk_frozen BK218.out 3; have hfz21_4 := blk_frozen BK218.out 4
   try go_wp2_with (first | ((with_reducible refine gate_builtin (b := .append) (xs := #[.tmp 36, .tmp 38]) rfl ?_); at_builtin; refine Kd.S_append k46 (w0 := w) w.heap.size rfl (.tmp 36) (.tmp 38) 22 46 (.agg #[(.bool false), (.int .i64 0), (.string ⟨#[]⟩), (.slice none 0 0), (.slice none 0 0)]) 80 rfl Tryz.underlying22 info46 rfl (by decide) (by omega) u3 x3_1 (⟨(rd_T46 l0 x4_1).f0, (rd_T46 l0 x4_1).f1, (rd_T46 l0 x4_1).f2, y220, y224⟩ : S46) [.bool ((rd_T46 l0 x4_1).f0), .int .i64 ((rd_T46 l0 x4_1).f1), .string ((rd_T46 l0 x4_1).f2), .slice Ao12 y220.length co12, .slice Ao18 y224.length co18] (fun k_ => k_ ≠ gb218) (fun k_ => some k_ = (.slice Ao12 y220.length co12 : Value).ownBlock ∨ some k_ = (.slice Ao18 y224.length co18 : Value).ownBlock) rfl rfl ?aP (fun k_ hk_ => hk_.elim (fun h_ => ((Kd.R_mono (ok' := fun k_ => ((fun k_ => k_ ≠ gb218)) k_ ∧ some k_ ≠ (u3 : Value).ownBlock) (Kd.R_types (Kd.R_apart' (HO222.out) (Kd.S_typed HO_3.out) (by decide)) BK218.out (by decide)) (fun k_ hk => ⟨hk.2, hk.1.2⟩))).1 k_ h_.symm) (fun h_ => ((Kd.R_mono (ok' := fun k_ => ((fun k_ => k_ ≠ gb218)) k_ ∧ some k_ ≠ (u3 : Value).ownBlock) (Kd.R_types (Kd.R_apart' (HO226.out) (Kd.S_typed HO_3.out) (by decide)) BK218.out (by decide)) (fun k_ hk => ⟨hk.2, hk.1.2⟩))).1 k_ h_.symm)) ?aF ?aO ?aB ?aS ?aL ?_; (case aP => exact k46_mkM _ _ _ (⟨(rd_T46 l0 x4_1).f0, (rd_T46 l0 x4_1).f1, (rd_T46 l0 x4_1).f2, y220, y224⟩ : S46) (Kd.R_mono (Kd.R_tight rfl (Kd.R_mono (ok' := fun k_ => ((fun k_ => k_ ≠ gb218)) k_ ∧ some k_ ≠ (u3 : Value).ownBlock) (Kd.R_types (Kd.R_apart' (HO222.out) (Kd.S_typed HO_3.out) (by decide)) BK218.out (by decide)) (fun k_ hk => ⟨hk.2, hk.1.2⟩))) (fun _ h_ => Or.inl h_)) (Kd.R_mono (Kd.R_tight rfl (Kd.R_mono (ok' := fun k_ => ((fun k_ => k_ ≠ gb218)) k_ ∧ some k_ ≠ (u3 : Value).ownBlock) (Kd.R_types (Kd.R_apart' (HO226.out) (Kd.S_typed HO_3.out) (by decide)) BK218.out (by decide)) (fun k_ hk => ⟨hk.2, hk.1.2⟩))) (fun _ h_ => Or.inr (h_)))); (case aB => exact bO); (case aF => exact (fun k_ hk => Kd.freshB (g := gb218) (o := .cells #[.bool ((rd_T46 l0 x4_1).f0), .int .i64 ((rd_T46 l0 x4_1).f1), .string ((rd_T46 l0 x4_1).f2), .slice Ao12 y220.length co12, .slice Ao18 y224.length co18] 46 (0, 0)) bK k_ hk)); (case aO => exact (by (with_reducible repeat (first | apply Kd.S_alloc | apply Kd.S_drewN | apply Kd.S_drew)); exact Kd.S_mono HO_3.out (fun k_ hk => ⟨hk.2.2, fun e_ => e_.elim (fun h_ => hk.1 h_) (fun h_ => hk.2.1 h_)⟩))); (case aS => exact (below_size bO)); (case aL => have := LMc6.out; omega); intro v228 w22 ho hb hg hat; rw [← Ny227.out] at ho; have n0_ := Aside0.mk (blk_grown (g := gb218) (o := .cells #[.bool ((rd_T46 l0 x4_1).f0), .int .i64 ((rd_T46 l0 x4_1).f1), .string ((rd_T46 l0 x4_1).f2), .slice Ao12 y220.length co12, .slice Ao18 y224.length co18] 46 (0, 0)) bK hg (Kd.S_away HO_3.out (fun _ hk => hk.2.2))); have n1_ := Aside0.mk (hb); have n2_ := Aside0.mk (ho); clear BK218; clear HB; clear HO_3; clear HO222; clear HO226; have BK218 := n0_; have HB := n1_; have HO229 := n2_; clear n0_ n1_ n2_; clear ho hb hg hat))
   go_roundg k1
   case measure => have := HK1.out; omega
   case rel => exact ⟨(y227), (wrap64 (x4_1 + 1)), sR, H', ⟨by have := HK1.out; omega⟩, ⟨by (with_reducible repeat (first | apply Kd.S_alloc | apply Kd.S_drewN | apply Kd.S_drew)); exact Kd.S_mono HO229.out (fun _ hk => trivial)⟩, ⟨bO⟩⟩
def belfryref04_SameMatch.l0 : Nat → List (S33) → List (S33) → Int → Option (Bool)
  | 0, _, _, _ => none
  | k + 1, x0, x1, x5 => if x5 < (x0.length : Int) then (if 0 ≤ x5 then (if x5 < (x1.length : Int) then (if (!(((rd_T33 x0 x5).f0) == ((rd_T33 x1 x5).f0)) || (!((((rd_T33 x0 x5).f1).toList) == (((rd_T33 x1 x5).f1).toList)) || (!((((rd_T33 x0 x5).f2).toList) == (((rd_T33 x1 x5).f2).toList))))) = true then (some false) else (belfryref04_SameMatch.l0 k x0 x1 (wrap64 (x5 + 1)))) else (none)) else (none)) else (some true)
def belfryref04_SameMatch.f (k : Nat) (l0 : List (S33)) (l1 : List (S33)) : Option (Bool) := if (l0.length : Int) = (l1.length : Int) then (belfryref04_SameMatch.l0 k l0 l1 0) else (some false)
set_option maxHeartbeats 8000000 in
set_option maxRecDepth 100000 in
theorem belfryref04_SameMatch.calls (k : Nat) (A0 : Option Addr) (c0 : Nat) (l0 : List (S33)) (A1 : Option Addr) (c1 : Nat) (l1 : List (S33)) (r : Bool) (w : World) (hr0 : Kd.C k33 w A0 l0.length l0) (hc0 : l0.length ≤ c0) (hr1 : Kd.C k33 w A1 l1.length l1) (hc1 : l1.length ≤ c1) (h : belfryref04_SameMatch.f k l0 l1 = some r) :
  Calls Tryz.prog 33 #[.slice A0 l0.length c0, .slice A1 l1.length c1] w fun e w' => e = .returned (.bool r) ∧ Drawn0 w w' := by
 have hu33 := Tryz.underlying33; have HR0 := Aside0.mk hr0; have HC0 := Aside0.mk hc0; clear hr0 hc0; have HR1 := Aside0.mk hr1; have HC1 := Aside0.mk hc1; clear hr1 hc1
 have H : (if (l0.length : Int) = (l1.length : Int) then (belfryref04_SameMatch.l0 k l0 l1 0) else (some false)) = some r := h
 clear h; by_cases c3 : (l0.length : Int) = (l1.length : Int); rotate_left
 ·
  rw [if_neg c3] at H
  have c3b0 : ((l0.length : Int) == (l1.length : Int)) = false := beq_eq_false_iff_ne.mpr c3
  have c3b1 : ((l0.length : Int) != (l1.length : Int)) = true := bne_iff_ne.mpr c3
  have c3b2 : (l0.length == l1.length) = false := by first | simpa using c3 | (simp at c3 ⊢; omega)
  obtain rfl := Option.some.inj H
  go_enter Tryz.func33, Tryz.ntmps33
  go_wp2
  repeat (go_quiet (fail); try go_wp2)
  go_ret
  exact ⟨sR, dR⟩
 rw [if_pos c3] at H
 have c3b0 : ((l0.length : Int) == (l1.length : Int)) = true := beq_iff_eq.mpr c3
 have c3b1 : ((l0.length : Int) != (l1.length : Int)) = false := bne_eq_false_iff_eq.mpr c3
 have c3b2 : (l0.length == l1.length) = true := by first | simpa using c3 | (simp at c3 ⊢; omega)
 clear c3; have H' := Aside0.mk H; clear H
 go_enter Tryz.func33, Tryz.ntmps33
 go_wp2
 repeat (go_quiet (fail); try go_wp2)
 go_loopg [5] k (fun kq v5 w' => ∃ (x5_1 : Int), v5 = .int .i64 x5_1 ∧ Aside0 (belfryref04_SameMatch.l0 kq l0 l1 x5_1 = some r) ∧ Aside0 (kq ≤ k) ∧ Drawn0 w w')
 case atStart => exact ⟨(0), sR, H', ⟨Nat.le_refl _⟩, dR⟩
 case round =>
  clear H'; (try clear c1); (try clear p2); (try clear c3); (try clear c3b0); (try clear c3b1); (try clear c3b2)
  obtain ⟨x5_1, rfl, HA, HK1, ⟨m1, rfl⟩⟩ := hrel
  cases gk with
  | zero => exact absurd HA.out (by simp [belfryref04_SameMatch.l0])
  | succ k1 =>
   have H := HA.out; clear HA
   simp only [belfryref04_SameMatch.l0] at H
   by_cases c4 : x5_1 < (l0.length : Int); rotate_left
   ·
    rw [if_neg c4] at H
    have c4b0 : decide (x5_1 < (l0.length : Int)) = false := decide_eq_false c4
    clear c4
    obtain rfl := Option.some.inj H
    go_wp2
    repeat (go_quiet (fail); try go_wp2)
    go_ret
    exact ⟨sR, dR⟩
   rw [if_pos c4] at H
   have c4b0 : decide (x5_1 < (l0.length : Int)) = true := decide_eq_true c4
   clear c4; by_cases c5 : 0 ≤ x5_1; rotate_left
   · rw [if_neg c5] at H; exact absurd H (by simp)
   rw [if_pos c5] at H
   have c5b0 : decide (0 ≤ x5_1) = true := decide_eq_true c5
   clear c5; by_cases c6 : x5_1 < (l1.length : Int); rotate_left
   · rw [if_neg c6] at H; exact absurd H (by simp)
   rw [if_pos c6] at H
   have c6b0 : decide (x5_1 < (l1.length : Int)) = true := decide_eq_true c6
   clear c6; by_cases c7 : (!(((rd_T33 l0 x5_1).f0) == ((rd_T33 l1 x5_1).f0)) || (!((((rd_T33 l0 x5_1).f1).toList) == (((rd_T33 l1 x5_1).f1).toList)) || (!((((rd_T33 l0 x5_1).f2).toList) == (((rd_T33 l1 x5_1).f2).toList))))) = true
   ·
    rw [if_pos c7] at H
    have c7b0 : (!(((rd_T33 l0 x5_1).f0) == ((rd_T33 l1 x5_1).f0)) || (!((((rd_T33 l0 x5_1).f1).toList) == (((rd_T33 l1 x5_1).f1).toList)) || (!((((rd_T33 l0 x5_1).f2).toList) == (((rd_T33 l1 x5_1).f2).toList))))) = true := c7
    clear c7
    obtain rfl := Option.some.inj H
    have p230 : 0 ≤ (x5_1 : Int) := of_decide_eq_true asm
    have q230 : x5_1 < (l0.length : Int) := of_decide_eq_true asm
    obtain ⟨ad230, e230, hx230_0, hx230_1, hx230_2⟩ := at_T33 HR0.out x5_1 p230 q230
    cases e230; replace p230 := eq_true p230; replace q230 := eq_true q230
    have p231 : 0 ≤ (x5_1 : Int) := of_decide_eq_true asm
    have q231 : x5_1 < (l1.length : Int) := of_decide_eq_true asm
    obtain ⟨ad231, e231, hx231_0, hx231_1, hx231_2⟩ := at_T33 HR1.out x5_1 p231 q231
    cases e231; replace p231 := eq_true p231; replace q231 := eq_true q231; go_wp2
    repeat (go_quiet (fail); try go_wp2)
    go_ret
    exact ⟨sR, dR⟩
   rw [if_neg c7] at H
   have c7b0 : (!(((rd_T33 l0 x5_1).f0) == ((rd_T33 l1 x5_1).f0)) || (!((((rd_T33 l0 x5_1).f1).toList) == (((rd_T33 l1 x5_1).f1).toList)) || (!((((rd_T33 l0 x5_1).f2).toList) == (((rd_T33 l1 x5_1).f2).toList))))) = false := by simpa using c7
   clear c7; have H' := Aside0.mk H; clear H
   have p230 : 0 ≤ (x5_1 : Int) := of_decide_eq_true asm
   have q230 : x5_1 < (l0.length : Int) := of_decide_eq_true asm
   obtain ⟨ad230, e230, hx230_0, hx230_1, hx230_2⟩ := at_T33 HR0.out x5_1 p230 q230
   cases e230; replace p230 := eq_true p230; replace q230 := eq_true q230
   have p231 : 0 ≤ (x5_1 : Int) := of_decide_eq_true asm
   have q231 : x5_1 < (l1.length : Int) := of_decide_eq_true asm
   obtain ⟨ad231, e231, hx231_0, hx231_1, hx231_2⟩ := at_T33 HR1.out x5_1 p231 q231
   cases e231; replace p231 := eq_true p231; replace q231 := eq_true q231; go_wp2
   repeat (go_quiet (fail); try go_wp2)
   go_roundg k1
   case measure => have := HK1.out; omega
   case rel => exact ⟨(wrap64 (x5_1 + 1)), sR, H', ⟨by have := HK1.out; omega⟩, dR⟩
def belfryref11_texts.l0 : Nat → List ByteArray → List ByteArray → Int → Option (Bool)
  | 0, _, _, _ => none
  | k + 1, x0, x1, x5 => if x5 < (x0.length : Int) then (if 0 ≤ x5 then (if x5 < (x1.length : Int) then (if (rdOf ByteArray.empty x0 x5).toList = (rdOf ByteArray.empty x1 x5).toList then (belfryref11_texts.l0 k x0 x1 (wrap64 (x5 + 1))) else (some false)) else (none)) else (none)) else (some true)
def belfryref11_texts.f (k : Nat) (l0 : List ByteArray) (l1 : List ByteArray) : Option (Bool) := if (l0.length : Int) = (l1.length : Int) then (belfryref11_texts.l0 k l0 l1 0) else (some false)
set_option maxHeartbeats 8000000 in
set_option maxRecDepth 100000 in
theorem belfryref11_texts.calls (k : Nat) (A0 : Option Addr) (c0 : Nat) (l0 : List ByteArray) (A1 : Option Addr) (c1 : Nat) (l1 : List ByteArray) (r : Bool) (w : World) (hr0 : Kd.C Kd.string w A0 l0.length l0) (hc0 : l0.length ≤ c0) (hr1 : Kd.C Kd.string w A1 l1.length l1) (hc1 : l1.length ≤ c1) (h : belfryref11_texts.f k l0 l1 = some r) :
  Calls Tryz.prog 34 #[.slice A0 l0.length c0, .slice A1 l1.length c1] w fun e w' => e = .returned (.bool r) ∧ Drawn0 w w' := by
 have HR0 := Aside0.mk hr0; have HC0 := Aside0.mk hc0; clear hr0 hc0; have HR1 := Aside0.mk hr1; have HC1 := Aside0.mk hc1; clear hr1 hc1
 have H : (if (l0.length : Int) = (l1.length : Int) then (belfryref11_texts.l0 k l0 l1 0) else (some false)) = some r := h
 clear h; by_cases c3 : (l0.length : Int) = (l1.length : Int); rotate_left
 ·
  rw [if_neg c3] at H
  have c3b0 : ((l0.length : Int) == (l1.length : Int)) = false := beq_eq_false_iff_ne.mpr c3
  have c3b1 : ((l0.length : Int) != (l1.length : Int)) = true := bne_iff_ne.mpr c3
  have c3b2 : (l0.length == l1.length) = false := by first | simpa using c3 | (simp at c3 ⊢; omega)
  obtain rfl := Option.some.inj H
  go_enter Tryz.func34, Tryz.ntmps34
  go_wp2
  repeat (go_quiet (fail); try go_wp2)
  go_ret
  exact ⟨sR, dR⟩
 rw [if_pos c3] at H
 have c3b0 : ((l0.length : Int) == (l1.length : Int)) = true := beq_iff_eq.mpr c3
 have c3b1 : ((l0.length : Int) != (l1.length : Int)) = false := bne_eq_false_iff_eq.mpr c3
 have c3b2 : (l0.length == l1.length) = true := by first | simpa using c3 | (simp at c3 ⊢; omega)
 clear c3; have H' := Aside0.mk H; clear H
 go_enter Tryz.func34, Tryz.ntmps34
 go_wp2
 repeat (go_quiet (fail); try go_wp2)
 go_loopg [5] k (fun kq v5 w' => ∃ (x5_1 : Int), v5 = .int .i64 x5_1 ∧ Aside0 (belfryref11_texts.l0 kq l0 l1 x5_1 = some r) ∧ Aside0 (kq ≤ k) ∧ Drawn0 w w')
 case atStart => exact ⟨(0), sR, H', ⟨Nat.le_refl _⟩, dR⟩
 case round =>
  clear H'; (try clear c1); (try clear p2); (try clear c3); (try clear c3b0); (try clear c3b1); (try clear c3b2)
  obtain ⟨x5_1, rfl, HA, HK1, ⟨m1, rfl⟩⟩ := hrel
  cases gk with
  | zero => exact absurd HA.out (by simp [belfryref11_texts.l0])
  | succ k1 =>
   have H := HA.out; clear HA
   simp only [belfryref11_texts.l0] at H
   by_cases c4 : x5_1 < (l0.length : Int); rotate_left
   ·
    rw [if_neg c4] at H
    have c4b0 : decide (x5_1 < (l0.length : Int)) = false := decide_eq_false c4
    clear c4
    obtain rfl := Option.some.inj H
    go_wp2
    repeat (go_quiet (fail); try go_wp2)
    go_ret
    exact ⟨sR, dR⟩
   rw [if_pos c4] at H
   have c4b0 : decide (x5_1 < (l0.length : Int)) = true := decide_eq_true c4
   clear c4; by_cases c5 : 0 ≤ x5_1; rotate_left
   · rw [if_neg c5] at H; exact absurd H (by simp)
   rw [if_pos c5] at H
   have c5b0 : decide (0 ≤ x5_1) = true := decide_eq_true c5
   clear c5; by_cases c6 : x5_1 < (l1.length : Int); rotate_left
   · rw [if_neg c6] at H; exact absurd H (by simp)
   rw [if_pos c6] at H
   have c6b0 : decide (x5_1 < (l1.length : Int)) = true := decide_eq_true c6
   clear c6; by_cases c7 : (rdOf ByteArray.empty l0 x5_1).toList = (rdOf ByteArray.empty l1 x5_1).toList; rotate_left
   ·
    rw [if_neg c7] at H
    have c7b0 : ((rdOf ByteArray.empty l0 x5_1).toList == (rdOf ByteArray.empty l1 x5_1).toList) = false := beq_eq_false_iff_ne.mpr c7
    have c7b1 : ((rdOf ByteArray.empty l0 x5_1).toList != (rdOf ByteArray.empty l1 x5_1).toList) = true := bne_iff_ne.mpr c7
    obtain rfl := Option.some.inj H
    have p232 : 0 ≤ (x5_1 : Int) := of_decide_eq_true asm
    have q232 : x5_1 < (l0.length : Int) := of_decide_eq_true asm
    obtain ⟨ad232, e232, hx232_0⟩ := Kd.at_string HR0.out x5_1 p232 q232
    cases e232; replace p232 := eq_true p232; replace q232 := eq_true q232
    have p233 : 0 ≤ (x5_1 : Int) := of_decide_eq_true asm
    have q233 : x5_1 < (l1.length : Int) := of_decide_eq_true asm
    obtain ⟨ad233, e233, hx233_0⟩ := Kd.at_string HR1.out x5_1 p233 q233
    cases e233; replace p233 := eq_true p233; replace q233 := eq_true q233; go_wp2
    repeat (go_quiet (fail); try go_wp2)
    go_ret
    exact ⟨sR, dR⟩
   rw [if_pos c7] at H
   have c7b0 : ((rdOf ByteArray.empty l0 x5_1).toList == (rdOf ByteArray.empty l1 x5_1).toList) = true := beq_iff_eq.mpr c7
   have c7b1 : ((rdOf ByteArray.empty l0 x5_1).toList != (rdOf ByteArray.empty l1 x5_1).toList) = false := bne_eq_false_iff_eq.mpr c7
   clear c7; have H' := Aside0.mk H; clear H
   have p232 : 0 ≤ (x5_1 : Int) := of_decide_eq_true asm
   have q232 : x5_1 < (l0.length : Int) := of_decide_eq_true asm
   obtain ⟨ad232, e232, hx232_0⟩ := Kd.at_string HR0.out x5_1 p232 q232
   cases e232; replace p232 := eq_true p232; replace q232 := eq_true q232
   have p233 : 0 ≤ (x5_1 : Int) := of_decide_eq_true asm
   have q233 : x5_1 < (l1.length : Int) := of_decide_eq_true asm
   obtain ⟨ad233, e233, hx233_0⟩ := Kd.at_string HR1.out x5_1 p233 q233
   cases e233; replace p233 := eq_true p233; replace q233 := eq_true q233; go_wp2
   repeat (go_quiet (fail); try go_wp2)
   go_roundg k1
   case measure => have := HK1.out; omega
   case rel => exact ⟨(wrap64 (x5_1 + 1)), sR, H', ⟨by have := HK1.out; omega⟩, dR⟩
end Go.Proofs.YtkedidjjhhjdbaaGreatDoor.Pr
