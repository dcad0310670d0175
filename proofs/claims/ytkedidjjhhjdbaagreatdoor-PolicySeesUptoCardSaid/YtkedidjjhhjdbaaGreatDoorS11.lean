import Derived.Test.YtkedidjjhhjdbaaGreatDoorS5
import Derived.Test.YtkedidjjhhjdbaaGreatDoorS7
import Derived.Test.YtkedidjjhhjdbaaGreatDoorS10
import Derived.Test.YtkedidjjhhjdbaaGreatDoorS6
import Derived.Laws.Rows
import Derived.Laws.Tables
import Derived.Great.BuildSlice
import Derived.ChangeKeysEq
section
namespace Go.Proofs.YtkedidjjhhjdbaaGreatDoor.Pr
open Go.RowKit Go.Proofs.YtkedidjjhhjdbaaGreatDoorW.PrintWords Go.Proofs.YtkedidjjhhjdbaaGreatDoorW.PrintLast Go.Proofs.YtkedidjjhhjdbaaGreatDoorW.PrintMore
attribute [local go_sem] max2_int min2_int max_two min_two max_three min_three max_four min_four strGtr strLeq strGeq
set_option linter.unusedVariables false
set_option linter.unusedSimpArgs false
attribute [local go_sem high] eqA62
def belfryref04_Fits.l0 : Nat → List (S62) → List (S33) → Int → Option (Bool)
  | 0, _, _, _ => none
  | k + 1, x0, x1, x5 => if x5 < (x1.length : Int) then (if 0 ≤ x5 then ((belfryref04_Get.f k x0 ((rd_T33 x1 x5).f1)).bind fun bt502 => ((belfryref04_Holds.f k ((rd_T33 x1 x5).f0) ((rd_T33 x1 x5).f1) ((rd_T33 x1 x5).f2) bt502.1).bind fun t505 => (if t505 = true then (belfryref04_Fits.l0 k x0 x1 (wrap64 (x5 + 1))) else (some false)))) else (none)) else (some true)
def belfryref04_Fits.f (k : Nat) (l0 : List (S62)) (l1 : List (S33)) : Option (Bool) := belfryref04_Fits.l0 k l0 l1 0
set_option maxHeartbeats 8000000 in
set_option maxRecDepth 100000 in
theorem belfryref04_Fits.calls (k : Nat) (A0 : Option Addr) (c0 : Nat) (l0 : List (S62)) (A1 : Option Addr) (c1 : Nat) (l1 : List (S33)) (r : Bool) (w : World) (hr0 : Kd.C k62 w A0 l0.length l0) (hc0 : l0.length ≤ c0) (hr1 : Kd.C k33 w A1 l1.length l1) (hc1 : l1.length ≤ c1) (h : belfryref04_Fits.f k l0 l1 = some r) :
  Calls Tryz.prog 29 #[.slice A0 l0.length c0, .slice A1 l1.length c1] w fun e w' => e = .returned (.bool r) ∧ Below w.heap.size w w' := by
 have hu33 := Tryz.underlying33
 have HR0 := Aside0.mk hr0
 have HC0 := Aside0.mk hc0
 clear hr0 hc0
 have HR1 := Aside0.mk hr1
 have HC1 := Aside0.mk hc1
 clear hr1 hc1
 have HB := Aside0.mk (Below.refl w.heap.size w)
 have H : (belfryref04_Fits.l0 k l0 l1 0) = some r := h
 clear h
 have H' := Aside0.mk H
 clear H
 go_enter Tryz.func29, Tryz.ntmps29
 go_wp2
 go_loopg [5] k (fun kq v5 w' => ∃ (x5_1 : Int), v5 = .int .i64 x5_1 ∧ Aside0 (belfryref04_Fits.l0 kq l0 l1 x5_1 = some r) ∧ Aside0 (kq ≤ k) ∧ Aside0 (Below w.heap.size w w'))
 case atStart => exact ⟨(0), (by first | rfl | (simp; done) | (simp [*]; done)), H', ⟨Nat.le_refl _⟩, ⟨by repeat (first | (with_reducible first | exact HB.out | apply below_alloc | apply pw_below_drewN | apply below_drew1) | exact HB.out)⟩⟩
 case round =>
  clear H'
  try clear c1
  try clear c2
  try clear p2
  obtain ⟨x5_1, rfl, HA, HK1, HB⟩ := hrel
  cases gk with
  | zero => exact absurd HA.out (by simp [belfryref04_Fits.l0])
  | succ k1 =>
   have H := HA.out
   clear HA
   simp only [belfryref04_Fits.l0] at H
   by_cases c3 : x5_1 < (l1.length : Int)
   ·
    rw [if_pos c3] at H
    have c3b0 : decide (x5_1 < (l1.length : Int)) = true := decide_eq_true c3
    clear c3
    by_cases c4 : 0 ≤ x5_1
    ·
     rw [if_pos c4] at H
     have c4b0 : decide (0 ≤ x5_1) = true := decide_eq_true c4
     clear c4
     replace H := Option.bind_eq_some_iff.mp H
     obtain ⟨⟨t502, t503⟩, A50, H⟩ := H
     replace H : ((belfryref04_Holds.f k1 ((rd_T33 l1 x5_1).f0) ((rd_T33 l1 x5_1).f1) ((rd_T33 l1 x5_1).f2) t502).bind fun t505 => (if t505 = true then (belfryref04_Fits.l0 k1 l0 l1 (wrap64 (x5_1 + 1))) else (some false))) = some r := H
     have A5 := Aside0.mk A50
     clear A50
     replace H := Option.bind_eq_some_iff.mp H
     obtain ⟨t505, A60, H⟩ := H
     replace H : (if t505 = true then (belfryref04_Fits.l0 k1 l0 l1 (wrap64 (x5_1 + 1))) else (some false)) = some r := H
     have A6 := Aside0.mk A60
     clear A60
     by_cases c7 : t505 = true
     ·
      subst c7
      have H1 : (belfryref04_Fits.l0 k1 l0 l1 (wrap64 (x5_1 + 1))) = some r := by rw [if_pos rfl] at H; exact H
      clear H
      have H := H1
      clear H1
      have H' := Aside0.mk H
      clear H
      have p501 : 0 ≤ (x5_1 : Int) := of_decide_eq_true (by first | (with_reducible assumption) | assumption)
      have q501 : x5_1 < (l1.length : Int) := of_decide_eq_true (by first | (with_reducible assumption) | assumption)
      obtain ⟨ad501, e501, hx501_0, hx501_1, hx501_2⟩ := at_T33 HR1.out x5_1 p501 q501
      cases e501
      replace hx501_0 := (HB.out.cell (World.block_lt_of_cell? w _ hx501_0)).trans hx501_0
      replace hx501_1 := (HB.out.cell (World.block_lt_of_cell? w _ hx501_1)).trans hx501_1
      replace hx501_2 := (HB.out.cell (World.block_lt_of_cell? w _ hx501_2)).trans hx501_2
      replace p501 := eq_true p501
      replace q501 := eq_true q501
      go_wp2_with (first | ((with_reducible refine gate_callee (f := 60) rfl ?_); refine goesL_ (some 21) rfl rfl Tryz.func60 (by kernel_rfl) rfl #[.slice A0 l0.length c0, .string ((rd_T33 l1 x5_1).f1)] rfl (by (try simp only [List.map_toArray, List.map_cons, List.map_nil]); first | done | rfl | (simp only [List.length_drop, List.length_take]; rfl)) ?_; (with_reducible refine (belfryref04_Get.calls k1 _ _ l0 ((rd_T33 l1 x5_1).f1) t502 t503 _ ?side1 ?side2 A5.out).mono ?_); (case side1 => repeat (first | exact (Kd.C_below HR0.out HB.out) | (with_reducible refine Kd.C_alloc ?_ _) | (with_reducible refine Kd.C_drewN ?_ _) | (with_reducible refine Kd.C_drew ?_))); (case side2 => exact HC0.out); rintro e w' ⟨rfl, ⟨nd, rfl⟩⟩; refine ⟨_, rfl, ?_⟩; have p504 : 0 ≤ (x5_1 : Int) := of_decide_eq_true (by first | (with_reducible assumption) | assumption); have q504 : x5_1 < (l1.length : Int) := of_decide_eq_true (by first | (with_reducible assumption) | assumption); obtain ⟨ad504, e504, hx504_0, hx504_1, hx504_2⟩ := at_T33 HR1.out x5_1 p504 q504; obtain rfl : ad501 = ad504 := (by injection e504); replace hx504_0 := (HB.out.cell (World.block_lt_of_cell? w _ hx504_0)).trans hx504_0; replace hx504_1 := (HB.out.cell (World.block_lt_of_cell? w _ hx504_1)).trans hx504_1; replace hx504_2 := (HB.out.cell (World.block_lt_of_cell? w _ hx504_2)).trans hx504_2; replace p504 := eq_true p504; replace q504 := eq_true q504) | ((with_reducible refine gate_callee (f := 61) rfl ?_); refine goesL_ (some 29) rfl rfl Tryz.func61 (by kernel_rfl) rfl #[.agg #[.int .i64 ((rd_T33 l1 x5_1).f0), .string ((rd_T33 l1 x5_1).f1), .string ((rd_T33 l1 x5_1).f2)], .string t502] rfl (by (try simp only [List.map_toArray, List.map_cons, List.map_nil]); first | done | rfl | (simp only [List.length_drop, List.length_take]; rfl)) ?_; (with_reducible refine (belfryref04_Holds.calls k1 ((rd_T33 l1 x5_1).f0) ((rd_T33 l1 x5_1).f1) ((rd_T33 l1 x5_1).f2) t502 true _ A6.out).mono ?_); rintro e w8 ⟨rfl, hb⟩; refine ⟨_, rfl, ?_⟩; have n0_ := Aside0.mk (below_step (by repeat (first | (with_reducible first | exact HB.out | apply below_alloc | apply pw_below_drewN | apply below_drew1) | exact HB.out)) hb); clear HB; have HB := n0_; clear n0_; (try clear hb); (try clear hb2); (try clear hk); (try clear hi)))
      go_roundg k1
      case measure => have := HK1.out; omega
      case rel => exact ⟨(wrap64 (x5_1 + 1)), (by first | rfl | (simp; done) | (simp [*]; done)), H', ⟨by have := HK1.out; omega⟩, ⟨by repeat (first | (with_reducible first | exact HB.out | apply below_alloc | apply pw_below_drewN | apply below_drew1) | exact HB.out)⟩⟩
     ·
      replace c7 := Bool.eq_false_iff.mpr c7
      subst c7
      have H1 : (some false) = some r := by rw [if_neg (show ¬ (false = true) by decide)] at H; exact H
      clear H
      have H := H1
      clear H1
      obtain rfl := Option.some.inj H
      have p501 : 0 ≤ (x5_1 : Int) := of_decide_eq_true (by first | (with_reducible assumption) | assumption)
      have q501 : x5_1 < (l1.length : Int) := of_decide_eq_true (by first | (with_reducible assumption) | assumption)
      obtain ⟨ad501, e501, hx501_0, hx501_1, hx501_2⟩ := at_T33 HR1.out x5_1 p501 q501
      cases e501
      replace hx501_0 := (HB.out.cell (World.block_lt_of_cell? w _ hx501_0)).trans hx501_0
      replace hx501_1 := (HB.out.cell (World.block_lt_of_cell? w _ hx501_1)).trans hx501_1
      replace hx501_2 := (HB.out.cell (World.block_lt_of_cell? w _ hx501_2)).trans hx501_2
      replace p501 := eq_true p501
      replace q501 := eq_true q501
      go_wp2_with (first | ((with_reducible refine gate_callee (f := 60) rfl ?_); refine goesL_ (some 21) rfl rfl Tryz.func60 (by kernel_rfl) rfl #[.slice A0 l0.length c0, .string ((rd_T33 l1 x5_1).f1)] rfl (by (try simp only [List.map_toArray, List.map_cons, List.map_nil]); first | done | rfl | (simp only [List.length_drop, List.length_take]; rfl)) ?_; (with_reducible refine (belfryref04_Get.calls k1 _ _ l0 ((rd_T33 l1 x5_1).f1) t502 t503 _ ?side1 ?side2 A5.out).mono ?_); (case side1 => repeat (first | exact (Kd.C_below HR0.out HB.out) | (with_reducible refine Kd.C_alloc ?_ _) | (with_reducible refine Kd.C_drewN ?_ _) | (with_reducible refine Kd.C_drew ?_))); (case side2 => exact HC0.out); rintro e w' ⟨rfl, ⟨nd, rfl⟩⟩; refine ⟨_, rfl, ?_⟩; have p504 : 0 ≤ (x5_1 : Int) := of_decide_eq_true (by first | (with_reducible assumption) | assumption); have q504 : x5_1 < (l1.length : Int) := of_decide_eq_true (by first | (with_reducible assumption) | assumption); obtain ⟨ad504, e504, hx504_0, hx504_1, hx504_2⟩ := at_T33 HR1.out x5_1 p504 q504; obtain rfl : ad501 = ad504 := (by injection e504); replace hx504_0 := (HB.out.cell (World.block_lt_of_cell? w _ hx504_0)).trans hx504_0; replace hx504_1 := (HB.out.cell (World.block_lt_of_cell? w _ hx504_1)).trans hx504_1; replace hx504_2 := (HB.out.cell (World.block_lt_of_cell? w _ hx504_2)).trans hx504_2; replace p504 := eq_true p504; replace q504 := eq_true q504) | ((with_reducible refine gate_callee (f := 61) rfl ?_); refine goesL_ (some 29) rfl rfl Tryz.func61 (by kernel_rfl) rfl #[.agg #[.int .i64 ((rd_T33 l1 x5_1).f0), .string ((rd_T33 l1 x5_1).f1), .string ((rd_T33 l1 x5_1).f2)], .string t502] rfl (by (try simp only [List.map_toArray, List.map_cons, List.map_nil]); first | done | rfl | (simp only [List.length_drop, List.length_take]; rfl)) ?_; (with_reducible refine (belfryref04_Holds.calls k1 ((rd_T33 l1 x5_1).f0) ((rd_T33 l1 x5_1).f1) ((rd_T33 l1 x5_1).f2) t502 false _ A6.out).mono ?_); rintro e w9 ⟨rfl, hb⟩; refine ⟨_, rfl, ?_⟩; have n0_ := Aside0.mk (below_step (by repeat (first | (with_reducible first | exact HB.out | apply below_alloc | apply pw_below_drewN | apply below_drew1) | exact HB.out)) hb); clear HB; have HB := n0_; clear n0_; (try clear hb); (try clear hb2); (try clear hk); (try clear hi)))
      go_ret
      exact ⟨by first | rfl | (simp [errW_none, errW_some] <;> rfl) | (simp [*, errW_none, errW_some] <;> rfl), by repeat (first | (with_reducible first | exact HB.out | apply below_alloc | apply pw_below_drewN | apply below_drew1) | exact HB.out)⟩
    ·
     rw [if_neg c4] at H
     exact absurd H (by simp)
   ·
    rw [if_neg c3] at H
    have c3b0 : decide (x5_1 < (l1.length : Int)) = false := decide_eq_false c3
    clear c3
    obtain rfl := Option.some.inj H
    go_wp2
    go_ret
    exact ⟨by first | rfl | (simp [errW_none, errW_some] <;> rfl) | (simp [*, errW_none, errW_some] <;> rfl), by repeat (first | (with_reducible first | exact HB.out | apply below_alloc | apply pw_below_drewN | apply below_drew1) | exact HB.out)⟩
mutual
def belfryref04_Without.l0 : Nat → List (S62) → List ByteArray → List (S62) → Int → Option ((List (S62)))
  | 0, _, _, _, _ => none
  | k + 1, x0, x1, x5, x6 => if x6 < (x0.length : Int) then (belfryref04_Without.l1 k x0 x1 x5 x6 false 0) else (some x5)
def belfryref04_Without.l1 : Nat → List (S62) → List ByteArray → List (S62) → Int → Bool → Int → Option ((List (S62)))
  | 0, _, _, _, _, _, _ => none
  | k + 1, x0, x1, x5, x6, x7, x8 => if x8 < (x1.length : Int) then (if x7 = true then (belfryref04_Without.l1 k x0 x1 x5 x6 true (wrap64 (x8 + 1))) else (if 0 ≤ x8 then (if 0 ≤ x6 then (if x6 < (x0.length : Int) then (belfryref04_Without.l1 k x0 x1 x5 x6 ((rdOf ByteArray.empty x1 x8).toList == ((rd_T62 x0 x6).f0).toList) (wrap64 (x8 + 1))) else (none)) else (none)) else (none))) else (if x7 = true then (belfryref04_Without.l0 k x0 x1 x5 (wrap64 (x6 + 1))) else (if 0 ≤ x6 then (if x6 < (x0.length : Int) then (if x5.length < 4398046511104 then (belfryref04_Without.l0 k x0 x1 (x5 ++ [(⟨(rd_T62 x0 x6).f0, (rd_T62 x0 x6).f1⟩ : S62)]) (wrap64 (x6 + 1))) else (none)) else (none)) else (none)))
end
def belfryref04_Without.f (k : Nat) (l0 : List (S62)) (l1 : List ByteArray) : Option ((List (S62))) := belfryref04_Without.l0 k l0 l1 ([] : List (S62)) 0
set_option maxHeartbeats 8000000 in
set_option maxRecDepth 100000 in
theorem belfryref04_Without.calls (k : Nat) (A0 : Option Addr) (c0 : Nat) (l0 : List (S62)) (A1 : Option Addr) (c1 : Nat) (l1 : List ByteArray) (r : List (S62)) (w : World) (hr0 : Kd.C k62 w A0 l0.length l0) (hc0 : l0.length ≤ c0) (hr1 : Kd.C Kd.string w A1 l1.length l1) (hc1 : l1.length ≤ c1) (h : belfryref04_Without.f k l0 l1 = some r) :
  Calls Tryz.prog 58 #[.slice A0 l0.length c0, .slice A1 l1.length c1] w fun e w' => ∃ v0_ : Value, e = .returned (v0_) ∧ Kd.R k62 62 w' w.heap.size (fun _ => True) v0_ r ∧ Below w.heap.size w w' := by
 have hu62 := Tryz.underlying62
 have HR0 := Aside0.mk hr0
 have HC0 := Aside0.mk hc0
 clear hr0 hc0
 have HR1 := Aside0.mk hr1
 have HC1 := Aside0.mk hc1
 clear hr1 hc1
 have HB := Aside0.mk (Below.refl w.heap.size w)
 have H : (belfryref04_Without.l0 k l0 l1 ([] : List (S62)) 0) = some r := h
 clear h
 have H' := Aside0.mk H
 clear H
 go_enter Tryz.func58, Tryz.ntmps58
 go_wp2
 repeat (go_quiet (fail); try go_wp2)
 go_loopg [5, 6] k (fun kq v5 v6 w' => ∃ (x5_1 : List (S62)) (x6_1 : Int), v6 = .int .i64 x6_1 ∧ Aside0 (belfryref04_Without.l0 kq l0 l1 x5_1 x6_1 = some r) ∧ Aside0 (kq ≤ k) ∧ Aside0 (Kd.R k62 62 w' w.heap.size (fun _ => True) v5 x5_1) ∧ Aside0 (Below w.heap.size w w'))
 case atStart => exact ⟨(([] : List (S62))), (0), (by first | rfl | (simp; done) | (simp [*]; done)), H', ⟨Nat.le_refl _⟩, ⟨by first | exact Kd.R_nil _ _ _ _ _ | exact Kd.N_nil _ _ _ _ _ | exact Kd.V_nil _ _ _ _ _ | exact Kd.Q_nil _ _ _ _ _ | exact Kd.S_nil _ _ _ _ _⟩, ⟨by repeat (first | (with_reducible first | exact HB.out | apply below_alloc | apply pw_below_drewN | apply below_drew1) | exact HB.out)⟩⟩
 case round =>
  clear H'
  try clear c1
  try clear p2
  obtain ⟨x5_1, x6_1, rfl, HA, HK1, HO_5, HB⟩ := hrel
  cases gk with
  | zero => exact absurd HA.out (by simp [belfryref04_Without.l0])
  | succ k1 =>
   have H := HA.out
   clear HA
   simp only [belfryref04_Without.l0] at H
   by_cases c3 : x6_1 < (l0.length : Int)
   ·
    rw [if_pos c3] at H
    have c3b0 : decide (x6_1 < (l0.length : Int)) = true := decide_eq_true c3
    clear c3
    have H' := Aside0.mk H
    clear H
    go_wp2
    repeat (go_quiet (fail); try go_wp2)
    go_loopg [7, 8] k1 (fun kq v7 v8 w' => ∃ (x7_2 : Bool) (x8_2 : Int), v7 = .bool x7_2 ∧ v8 = .int .i64 x8_2 ∧ Aside0 (belfryref04_Without.l1 kq l0 l1 x5_1 x6_1 x7_2 x8_2 = some r) ∧ Aside0 (kq ≤ k1) ∧ Aside0 (Kd.R k62 62 w' w.heap.size (fun _ => True) u5 x5_1) ∧ Aside0 (Below w.heap.size w w'))
    case atStart => exact ⟨(false), (0), (by first | rfl | (simp; done) | (simp [*]; done)), (by first | rfl | (simp; done) | (simp [*]; done)), H', ⟨Nat.le_refl _⟩, ⟨by (with_reducible repeat (first | apply Kd.R_alloc | apply Kd.R_drewN | apply Kd.R_drew)); exact HO_5.out⟩, ⟨by repeat (first | (with_reducible first | exact HB.out | apply below_alloc | apply pw_below_drewN | apply below_drew1) | exact HB.out)⟩⟩
    case round =>
     clear H'
     try clear c1
     try clear p2
     try clear c3
     try clear c3b0
     try clear p2
     obtain ⟨x7_2, x8_2, rfl, rfl, HA, HK2, HO_5, HB⟩ := hrel
     cases gk with
     | zero => exact absurd HA.out (by simp [belfryref04_Without.l1])
     | succ k2 =>
      have H := HA.out
      clear HA
      simp only [belfryref04_Without.l1] at H
      by_cases c4 : x8_2 < (l1.length : Int)
      ·
       rw [if_pos c4] at H
       have c4b0 : decide (x8_2 < (l1.length : Int)) = true := decide_eq_true c4
       clear c4
       by_cases c5 : x7_2 = true
       ·
        subst c5
        have H1 : (belfryref04_Without.l1 k2 l0 l1 x5_1 x6_1 true (wrap64 (x8_2 + 1))) = some r := by rw [if_pos rfl] at H; exact H
        clear H
        have H := H1
        clear H1
        have H' := Aside0.mk H
        clear H
        go_wp2
        repeat (go_quiet (fail); try go_wp2)
        go_roundg k2
        case measure => have := HK1.out; have := HK2.out; omega
        case rel => exact ⟨(true), (wrap64 (x8_2 + 1)), (by first | rfl | (simp; done) | (simp [*]; done)), (by first | rfl | (simp; done) | (simp [*]; done)), H', ⟨by have := HK1.out; have := HK2.out; omega⟩, ⟨by (with_reducible repeat (first | apply Kd.R_alloc | apply Kd.R_drewN | apply Kd.R_drew)); exact HO_5.out⟩, ⟨by repeat (first | (with_reducible first | exact HB.out | apply below_alloc | apply pw_below_drewN | apply below_drew1) | exact HB.out)⟩⟩
       ·
        replace c5 := Bool.eq_false_iff.mpr c5
        subst c5
        have H1 : (if 0 ≤ x8_2 then (if 0 ≤ x6_1 then (if x6_1 < (l0.length : Int) then (belfryref04_Without.l1 k2 l0 l1 x5_1 x6_1 ((rdOf ByteArray.empty l1 x8_2).toList == ((rd_T62 l0 x6_1).f0).toList) (wrap64 (x8_2 + 1))) else (none)) else (none)) else (none)) = some r := by rw [if_neg (show ¬ (false = true) by decide)] at H; exact H
        clear H
        have H := H1
        clear H1
        by_cases c6 : 0 ≤ x8_2
        ·
         rw [if_pos c6] at H
         have c6b0 : decide (0 ≤ x8_2) = true := decide_eq_true c6
         clear c6
         by_cases c7 : 0 ≤ x6_1
         ·
          rw [if_pos c7] at H
          have c7b0 : decide (0 ≤ x6_1) = true := decide_eq_true c7
          clear c7
          by_cases c8 : x6_1 < (l0.length : Int)
          ·
           rw [if_pos c8] at H
           have c8b0 : decide (x6_1 < (l0.length : Int)) = true := decide_eq_true c8
           clear c8
           have H' := Aside0.mk H
           clear H
           have p506 : 0 ≤ (x8_2 : Int) := of_decide_eq_true (by first | (with_reducible assumption) | assumption)
           have q506 : x8_2 < (l1.length : Int) := of_decide_eq_true (by first | (with_reducible assumption) | assumption)
           obtain ⟨ad506, e506, hx506_0⟩ := Kd.at_string HR1.out x8_2 p506 q506
           cases e506
           replace hx506_0 := (HB.out.cell (World.block_lt_of_cell? w _ hx506_0)).trans hx506_0
           replace p506 := eq_true p506
           replace q506 := eq_true q506
           have p507 : 0 ≤ (x6_1 : Int) := of_decide_eq_true (by first | (with_reducible assumption) | assumption)
           have q507 : x6_1 < (l0.length : Int) := of_decide_eq_true (by first | (with_reducible assumption) | assumption)
           obtain ⟨ad507, e507, hx507_0, hx507_1⟩ := at_T62 HR0.out x6_1 p507 q507
           cases e507
           replace hx507_0 := (HB.out.cell (World.block_lt_of_cell? w _ hx507_0)).trans hx507_0
           replace hx507_1 := (HB.out.cell (World.block_lt_of_cell? w _ hx507_1)).trans hx507_1
           replace p507 := eq_true p507
           replace q507 := eq_true q507
           go_wp2
           repeat (go_quiet (fail); try go_wp2)
           go_roundg k2
           case measure => have := HK1.out; have := HK2.out; omega
           case rel => exact ⟨(((rdOf ByteArray.empty l1 x8_2).toList == ((rd_T62 l0 x6_1).f0).toList)), (wrap64 (x8_2 + 1)), (by first | rfl | (simp; done) | (simp [*]; done)), (by first | rfl | (simp; done) | (simp [*]; done)), H', ⟨by have := HK1.out; have := HK2.out; omega⟩, ⟨by (with_reducible repeat (first | apply Kd.R_alloc | apply Kd.R_drewN | apply Kd.R_drew)); exact HO_5.out⟩, ⟨by repeat (first | (with_reducible first | exact HB.out | apply below_alloc | apply pw_below_drewN | apply below_drew1) | exact HB.out)⟩⟩
          ·
           rw [if_neg c8] at H
           exact absurd H (by simp)
         ·
          rw [if_neg c7] at H
          exact absurd H (by simp)
        ·
         rw [if_neg c6] at H
         exact absurd H (by simp)
      ·
       rw [if_neg c4] at H
       have c4b0 : decide (x8_2 < (l1.length : Int)) = false := decide_eq_false c4
       clear c4
       by_cases c9 : x7_2 = true
       ·
        subst c9
        have H1 : (belfryref04_Without.l0 k2 l0 l1 x5_1 (wrap64 (x6_1 + 1))) = some r := by rw [if_pos rfl] at H; exact H
        clear H
        have H := H1
        clear H1
        have H' := Aside0.mk H
        clear H
        go_wp2
        repeat (go_quiet (fail); try go_wp2)
        go_roundg k2
        case measure => have := HK1.out; have := HK2.out; omega
        case rel => exact ⟨(x5_1), (wrap64 (x6_1 + 1)), (by first | rfl | (simp; done) | (simp [*]; done)), H', ⟨by have := HK1.out; have := HK2.out; omega⟩, ⟨by (with_reducible repeat (first | apply Kd.R_alloc | apply Kd.R_drewN | apply Kd.R_drew)); exact HO_5.out⟩, ⟨by repeat (first | (with_reducible first | exact HB.out | apply below_alloc | apply pw_below_drewN | apply below_drew1) | exact HB.out)⟩⟩
       ·
        replace c9 := Bool.eq_false_iff.mpr c9
        subst c9
        have H1 : (if 0 ≤ x6_1 then (if x6_1 < (l0.length : Int) then (if x5_1.length < 4398046511104 then (belfryref04_Without.l0 k2 l0 l1 (x5_1 ++ [(⟨(rd_T62 l0 x6_1).f0, (rd_T62 l0 x6_1).f1⟩ : S62)]) (wrap64 (x6_1 + 1))) else (none)) else (none)) else (none)) = some r := by rw [if_neg (show ¬ (false = true) by decide)] at H; exact H
        clear H
        have H := H1
        clear H1
        by_cases c10 : 0 ≤ x6_1
        ·
         rw [if_pos c10] at H
         have c10b0 : decide (0 ≤ x6_1) = true := decide_eq_true c10
         clear c10
         by_cases c11 : x6_1 < (l0.length : Int)
         ·
          rw [if_pos c11] at H
          have c11b0 : decide (x6_1 < (l0.length : Int)) = true := decide_eq_true c11
          clear c11
          by_cases c12 : x5_1.length < 4398046511104
          ·
           rw [if_pos c12] at H
           have LMc12 := Aside0.mk c12
           clear c12
           obtain ⟨y509, hy509⟩ : ∃ y_ : List (S62), y_ = (x5_1 ++ [(⟨(rd_T62 l0 x6_1).f0, (rd_T62 l0 x6_1).f1⟩ : S62)]) := ⟨_, rfl⟩
           replace H : (belfryref04_Without.l0 k2 l0 l1 y509 (wrap64 (x6_1 + 1))) = some r := by first | (rw [hy509]; with_reducible exact H) | (have H2_ := (Option.bind_some _ _).symm.trans H; rw [hy509]; with_reducible exact H2_) | (have H2_ := (Option.bind_some _ _).symm.trans H; with_reducible exact H2_) | with_reducible exact H | (rw [hy509]; exact H) | exact H
           have Ny509 := Aside0.mk hy509
           clear hy509
           have H' := Aside0.mk H
           clear H
           have p508 : 0 ≤ (x6_1 : Int) := of_decide_eq_true (by first | (with_reducible assumption) | assumption)
           have q508 : x6_1 < (l0.length : Int) := of_decide_eq_true (by first | (with_reducible assumption) | assumption)
           obtain ⟨ad508, e508, hx508_0, hx508_1⟩ := at_T62 HR0.out x6_1 p508 q508
           cases e508
           replace hx508_0 := (HB.out.cell (World.block_lt_of_cell? w _ hx508_0)).trans hx508_0
           replace hx508_1 := (HB.out.cell (World.block_lt_of_cell? w _ hx508_1)).trans hx508_1
           replace p508 := eq_true p508
           replace q508 := eq_true q508
           go_wp2_with (first | ((with_reducible refine gate_builtin (b := .append) (xs := #[.tmp 36, .tmp 41]) rfl ?_); at_builtin; refine Kd.R_append k62 (w0 := w) w.heap.size rfl (.tmp 36) (.tmp 41) 48 62 (.agg #[(.string ⟨#[]⟩), (.string ⟨#[]⟩)]) 32 rfl Tryz.underlying48 info62 rfl (by decide) (by omega) u5 x5_1 (⟨(rd_T62 l0 x6_1).f0, (rd_T62 l0 x6_1).f1⟩ : S62) [.string ((rd_T62 l0 x6_1).f0), .string ((rd_T62 l0 x6_1).f1)] (fun _ => True) (fun _ => False) rfl rfl ?aP (fun _ hk => hk.elim) ?aF ?aO ?aB ?aS ?aL ?_; (case aP => exact k62_mkM _ _ _ (⟨(rd_T62 l0 x6_1).f0, (rd_T62 l0 x6_1).f1⟩ : S62)); (case aB => exact (by repeat (first | (with_reducible first | exact HB.out | apply below_alloc | apply pw_below_drewN | apply below_drew1) | exact HB.out))); (case aF => exact (fun _ _ => trivial)); (case aO => exact (by (with_reducible repeat (first | apply Kd.R_alloc | apply Kd.R_drewN | apply Kd.R_drew)); exact HO_5.out)); (case aS => exact (below_size (by repeat (first | (with_reducible first | exact HB.out | apply below_alloc | apply pw_below_drewN | apply below_drew1) | exact HB.out)))); (case aL => have := LMc12.out; omega); intro v510 w13 ho hb hg hat; rw [← Ny509.out] at ho; have n0_ := Aside0.mk (hb); have n1_ := Aside0.mk (ho); clear HB; clear HO_5; have HB := n0_; have HO511 := n1_; clear n0_ n1_; clear ho hb hg hat))
           repeat (go_quiet (first | ((with_reducible refine gate_builtin (b := .append) (xs := #[.tmp 36, .tmp 41]) rfl ?_); at_builtin; refine Kd.R_append k62 (w0 := w) w.heap.size rfl (.tmp 36) (.tmp 41) 48 62 (.agg #[(.string ⟨#[]⟩), (.string ⟨#[]⟩)]) 32 rfl Tryz.underlying48 info62 rfl (by decide) (by omega) u5 x5_1 (⟨(rd_T62 l0 x6_1).f0, (rd_T62 l0 x6_1).f1⟩ : S62) [.string ((rd_T62 l0 x6_1).f0), .string ((rd_T62 l0 x6_1).f1)] (fun _ => True) (fun _ => False) rfl rfl ?aP (fun _ hk => hk.elim) ?aF ?aO ?aB ?aS ?aL ?_; (case aP => exact k62_mkM _ _ _ (⟨(rd_T62 l0 x6_1).f0, (rd_T62 l0 x6_1).f1⟩ : S62)); (case aB => exact (by repeat (first | (with_reducible first | exact HB.out | apply below_alloc | apply pw_below_drewN | apply below_drew1) | exact HB.out))); (case aF => exact (fun _ _ => trivial)); (case aO => exact (by (with_reducible repeat (first | apply Kd.R_alloc | apply Kd.R_drewN | apply Kd.R_drew)); exact HO_5.out)); (case aS => exact (below_size (by repeat (first | (with_reducible first | exact HB.out | apply below_alloc | apply pw_below_drewN | apply below_drew1) | exact HB.out)))); (case aL => have := LMc12.out; omega); intro v510 w13 ho hb hg hat; rw [← Ny509.out] at ho; have n0_ := Aside0.mk (hb); have n1_ := Aside0.mk (ho); clear HB; clear HO_5; have HB := n0_; have HO511 := n1_; clear n0_ n1_; clear ho hb hg hat)); try go_wp2_with (first | ((with_reducible refine gate_builtin (b := .append) (xs := #[.tmp 36, .tmp 41]) rfl ?_); at_builtin; refine Kd.R_append k62 (w0 := w) w.heap.size rfl (.tmp 36) (.tmp 41) 48 62 (.agg #[(.string ⟨#[]⟩), (.string ⟨#[]⟩)]) 32 rfl Tryz.underlying48 info62 rfl (by decide) (by omega) u5 x5_1 (⟨(rd_T62 l0 x6_1).f0, (rd_T62 l0 x6_1).f1⟩ : S62) [.string ((rd_T62 l0 x6_1).f0), .string ((rd_T62 l0 x6_1).f1)] (fun _ => True) (fun _ => False) rfl rfl ?aP (fun _ hk => hk.elim) ?aF ?aO ?aB ?aS ?aL ?_; (case aP => exact k62_mkM _ _ _ (⟨(rd_T62 l0 x6_1).f0, (rd_T62 l0 x6_1).f1⟩ : S62)); (case aB => exact (by repeat (first | (with_reducible first | exact HB.out | apply below_alloc | apply pw_below_drewN | apply below_drew1) | exact HB.out))); (case aF => exact (fun _ _ => trivial)); (case aO => exact (by (with_reducible repeat (first | apply Kd.R_alloc | apply Kd.R_drewN | apply Kd.R_drew)); exact HO_5.out)); (case aS => exact (below_size (by repeat (first | (with_reducible first | exact HB.out | apply below_alloc | apply pw_below_drewN | apply below_drew1) | exact HB.out)))); (case aL => have := LMc12.out; omega); intro v510 w13 ho hb hg hat; rw [← Ny509.out] at ho; have n0_ := Aside0.mk (hb); have n1_ := Aside0.mk (ho); clear HB; clear HO_5; have HB := n0_; have HO511 := n1_; clear n0_ n1_; clear ho hb hg hat)))
           go_roundg k2
           case measure => have := HK1.out; have := HK2.out; omega
           case rel => exact ⟨(y509), (wrap64 (x6_1 + 1)), (by first | rfl | (simp; done) | (simp [*]; done)), H', ⟨by have := HK1.out; have := HK2.out; omega⟩, ⟨by (with_reducible repeat (first | apply Kd.R_alloc | apply Kd.R_drewN | apply Kd.R_drew)); exact HO511.out⟩, ⟨by repeat (first | (with_reducible first | exact HB.out | apply below_alloc | apply pw_below_drewN | apply below_drew1) | exact HB.out)⟩⟩
          ·
           rw [if_neg c12] at H
           exact absurd H (by simp)
         ·
          rw [if_neg c11] at H
          exact absurd H (by simp)
        ·
         rw [if_neg c10] at H
         exact absurd H (by simp)
   ·
    rw [if_neg c3] at H
    have c3b0 : decide (x6_1 < (l0.length : Int)) = false := decide_eq_false c3
    clear c3
    obtain rfl := Option.some.inj H
    go_wp2
    repeat (go_quiet (fail); try go_wp2)
    go_ret
    exact ⟨_, by first | rfl | (simp [errW_none, errW_some] <;> rfl) | (simp [*, errW_none, errW_some] <;> rfl), by (with_reducible repeat (first | apply Kd.R_alloc | apply Kd.R_drewN | apply Kd.R_drew)); exact HO_5.out, by repeat (first | (with_reducible first | exact HB.out | apply below_alloc | apply pw_below_drewN | apply below_drew1) | exact HB.out)⟩
def belfryref04_Same.l0 : Nat → List (S62) → List (S62) → Int → Option (Bool)
  | 0, _, _, _ => none
  | k + 1, x0, x1, x5 => if x5 < (x0.length : Int) then (if 0 ≤ x5 then (if x5 < (x1.length : Int) then (if (!((((rd_T62 x0 x5).f0).toList) == (((rd_T62 x1 x5).f0).toList)) || (!((((rd_T62 x0 x5).f1).toList) == (((rd_T62 x1 x5).f1).toList)))) = true then (some false) else (belfryref04_Same.l0 k x0 x1 (wrap64 (x5 + 1)))) else (none)) else (none)) else (some true)
def belfryref04_Same.f (k : Nat) (l0 : List (S62)) (l1 : List (S62)) : Option (Bool) := if (l0.length : Int) = (l1.length : Int) then (belfryref04_Same.l0 k l0 l1 0) else (some false)
set_option maxHeartbeats 8000000 in
set_option maxRecDepth 100000 in
theorem belfryref04_Same.calls (k : Nat) (A0 : Option Addr) (c0 : Nat) (l0 : List (S62)) (A1 : Option Addr) (c1 : Nat) (l1 : List (S62)) (r : Bool) (w : World) (hr0 : Kd.C k62 w A0 l0.length l0) (hc0 : l0.length ≤ c0) (hr1 : Kd.C k62 w A1 l1.length l1) (hc1 : l1.length ≤ c1) (h : belfryref04_Same.f k l0 l1 = some r) :
  Calls Tryz.prog 59 #[.slice A0 l0.length c0, .slice A1 l1.length c1] w fun e w' => e = .returned (.bool r) ∧ Drawn0 w w' := by
 have hu62 := Tryz.underlying62
 have HR0 := Aside0.mk hr0
 have HC0 := Aside0.mk hc0
 clear hr0 hc0
 have HR1 := Aside0.mk hr1
 have HC1 := Aside0.mk hc1
 clear hr1 hc1
 have H : (if (l0.length : Int) = (l1.length : Int) then (belfryref04_Same.l0 k l0 l1 0) else (some false)) = some r := h
 clear h
 by_cases c3 : (l0.length : Int) = (l1.length : Int)
 ·
  rw [if_pos c3] at H
  have c3b0 : ((l0.length : Int) == (l1.length : Int)) = true := beq_iff_eq.mpr c3
  have c3b1 : ((l0.length : Int) != (l1.length : Int)) = false := bne_eq_false_iff_eq.mpr c3
  have c3b2 : (l0.length == l1.length) = true := by first | simpa using c3 | (simp at c3 ⊢; omega)
  clear c3
  have H' := Aside0.mk H
  clear H
  go_enter Tryz.func59, Tryz.ntmps59
  go_wp2
  repeat (go_quiet (fail); try go_wp2)
  go_loopg [5] k (fun kq v5 w' => ∃ (x5_1 : Int), v5 = .int .i64 x5_1 ∧ Aside0 (belfryref04_Same.l0 kq l0 l1 x5_1 = some r) ∧ Aside0 (kq ≤ k) ∧ Drawn0 w w')
  case atStart => exact ⟨(0), (by first | rfl | (simp; done) | (simp [*]; done)), H', ⟨Nat.le_refl _⟩, by repeat (first | exact Drawn0.refl _ | apply Drawn0.step)⟩
  case round =>
   clear H'
   try clear c1
   try clear p2
   try clear c3
   try clear c3b0
   try clear c3b1
   try clear c3b2
   obtain ⟨x5_1, rfl, HA, HK1, ⟨m1, rfl⟩⟩ := hrel
   cases gk with
   | zero => exact absurd HA.out (by simp [belfryref04_Same.l0])
   | succ k1 =>
    have H := HA.out
    clear HA
    simp only [belfryref04_Same.l0] at H
    by_cases c4 : x5_1 < (l0.length : Int)
    ·
     rw [if_pos c4] at H
     have c4b0 : decide (x5_1 < (l0.length : Int)) = true := decide_eq_true c4
     clear c4
     by_cases c5 : 0 ≤ x5_1
     ·
      rw [if_pos c5] at H
      have c5b0 : decide (0 ≤ x5_1) = true := decide_eq_true c5
      clear c5
      by_cases c6 : x5_1 < (l1.length : Int)
      ·
       rw [if_pos c6] at H
       have c6b0 : decide (x5_1 < (l1.length : Int)) = true := decide_eq_true c6
       clear c6
       by_cases c7 : (!((((rd_T62 l0 x5_1).f0).toList) == (((rd_T62 l1 x5_1).f0).toList)) || (!((((rd_T62 l0 x5_1).f1).toList) == (((rd_T62 l1 x5_1).f1).toList)))) = true
       ·
        rw [if_pos c7] at H
        have c7b0 : (!((((rd_T62 l0 x5_1).f0).toList) == (((rd_T62 l1 x5_1).f0).toList)) || (!((((rd_T62 l0 x5_1).f1).toList) == (((rd_T62 l1 x5_1).f1).toList)))) = true := c7
        clear c7
        obtain rfl := Option.some.inj H
        have p512 : 0 ≤ (x5_1 : Int) := of_decide_eq_true (by first | (with_reducible assumption) | assumption)
        have q512 : x5_1 < (l0.length : Int) := of_decide_eq_true (by first | (with_reducible assumption) | assumption)
        obtain ⟨ad512, e512, hx512_0, hx512_1⟩ := at_T62 HR0.out x5_1 p512 q512
        cases e512
        replace p512 := eq_true p512
        replace q512 := eq_true q512
        have p513 : 0 ≤ (x5_1 : Int) := of_decide_eq_true (by first | (with_reducible assumption) | assumption)
        have q513 : x5_1 < (l1.length : Int) := of_decide_eq_true (by first | (with_reducible assumption) | assumption)
        obtain ⟨ad513, e513, hx513_0, hx513_1⟩ := at_T62 HR1.out x5_1 p513 q513
        cases e513
        replace p513 := eq_true p513
        replace q513 := eq_true q513
        go_wp2
        repeat (go_quiet (fail); try go_wp2)
        go_ret
        exact ⟨by first | rfl | (simp; done) | (simp [*]; done), by repeat (first | exact Drawn0.refl _ | apply Drawn0.step)⟩
       ·
        rw [if_neg c7] at H
        have c7b0 : (!((((rd_T62 l0 x5_1).f0).toList) == (((rd_T62 l1 x5_1).f0).toList)) || (!((((rd_T62 l0 x5_1).f1).toList) == (((rd_T62 l1 x5_1).f1).toList)))) = false := by simpa using c7
        clear c7
        have H' := Aside0.mk H
        clear H
        have p512 : 0 ≤ (x5_1 : Int) := of_decide_eq_true (by first | (with_reducible assumption) | assumption)
        have q512 : x5_1 < (l0.length : Int) := of_decide_eq_true (by first | (with_reducible assumption) | assumption)
        obtain ⟨ad512, e512, hx512_0, hx512_1⟩ := at_T62 HR0.out x5_1 p512 q512
        cases e512
        replace p512 := eq_true p512
        replace q512 := eq_true q512
        have p513 : 0 ≤ (x5_1 : Int) := of_decide_eq_true (by first | (with_reducible assumption) | assumption)
        have q513 : x5_1 < (l1.length : Int) := of_decide_eq_true (by first | (with_reducible assumption) | assumption)
        obtain ⟨ad513, e513, hx513_0, hx513_1⟩ := at_T62 HR1.out x5_1 p513 q513
        cases e513
        replace p513 := eq_true p513
        replace q513 := eq_true q513
        go_wp2
        repeat (go_quiet (fail); try go_wp2)
        go_roundg k1
        case measure => have := HK1.out; omega
        case rel => exact ⟨(wrap64 (x5_1 + 1)), (by first | rfl | (simp; done) | (simp [*]; done)), H', ⟨by have := HK1.out; omega⟩, by repeat (first | exact Drawn0.refl _ | apply Drawn0.step)⟩
      ·
       rw [if_neg c6] at H
       exact absurd H (by simp)
     ·
      rw [if_neg c5] at H
      exact absurd H (by simp)
    ·
     rw [if_neg c4] at H
     have c4b0 : decide (x5_1 < (l0.length : Int)) = false := decide_eq_false c4
     clear c4
     obtain rfl := Option.some.inj H
     go_wp2
     repeat (go_quiet (fail); try go_wp2)
     go_ret
     exact ⟨by first | rfl | (simp; done) | (simp [*]; done), by repeat (first | exact Drawn0.refl _ | apply Drawn0.step)⟩
 ·
  rw [if_neg c3] at H
  have c3b0 : ((l0.length : Int) == (l1.length : Int)) = false := beq_eq_false_iff_ne.mpr c3
  have c3b1 : ((l0.length : Int) != (l1.length : Int)) = true := bne_iff_ne.mpr c3
  have c3b2 : (l0.length == l1.length) = false := by first | simpa using c3 | (simp at c3 ⊢; omega)
  obtain rfl := Option.some.inj H
  go_enter Tryz.func59, Tryz.ntmps59
  go_wp2
  repeat (go_quiet (fail); try go_wp2)
  go_ret
  exact ⟨by first | rfl | (simp; done) | (simp [*]; done), by repeat (first | exact Drawn0.refl _ | apply Drawn0.step)⟩
end Go.Proofs.YtkedidjjhhjdbaaGreatDoor.Pr
end
section
set_option linter.unusedVariables false
set_option linter.unusedSimpArgs false
namespace Go.Proofs.YtkedidjjhhjdbaaGreatDoor.Pr
open Go.RowKit Go.Proofs.YtkedidjjhhjdbaaGreatDoorW.PrintWords Go.Proofs.YtkedidjjhhjdbaaGreatDoorW.PrintLast Go.Proofs.YtkedidjjhhjdbaaGreatDoorW.PrintMore
abbrev keyL (x : S62) : List UInt8 := x.f0.data.toList
theorem rd_at (l : List S62) (i : Nat) (h : i < l.length) : rd_T62 l (i : Int) = l[i] := by simp [rd_T62, h]
theorem drop_cons (l : List S62) (i : Nat) (h : i < l.length) : l.drop i = l[i] :: l.drop (i + 1) := List.drop_eq_getElem_cons h
def getL (key : ByteArray) : List S62 → ByteArray × Bool
  | [] => (⟨#[]⟩, false)
  | x :: l => if keyL x = key.data.toList then (x.f1, true) else getL key l
theorem get_l0 (key : ByteArray) (l : List S62) (hl : l.length < 4398046511104) : ∀ (n i : Nat), i + n = l.length → ∀ k, n < k → attr_Get.l0 k key l (l.length : Int) (i : Int) = some (getL key (l.drop i))
 | _, _, _, 0, hk => absurd hk (by omega)
 | 0, i, hn, k + 1, hk => by
  rw [attr_Get.l0, if_neg (by omega), List.drop_of_length_le (show l.length ≤ i by omega)]; rfl
 | n + 1, i, hn, k + 1, hk => by
  have hi : i < l.length := by omega
  rw [attr_Get.l0, if_pos (by omega), if_pos (by omega), if_pos (by omega), rd_at l i hi, drop_cons l i hi, getL, wrap_small (n := (i : Int) + 1) (by omega) (by omega), show (i : Int) + 1 = ((i + 1 : Nat) : Int) by omega, get_l0 key l hl n (i + 1) (by omega) k (by omega)]
  simp only [Lib.toList_data]
  by_cases h : keyL l[i] = key.data.toList
  ·
   rw [if_pos h, if_pos h]
  ·
   rw [if_neg h, if_neg h]
theorem get_ev (key : ByteArray) (l : List S62) (hl : l.length < 4398046511104) : Ev (fun k => attr_Get.f k l key) (getL key l) := by
 refine ⟨l.length + 1, fun k hk => ?_⟩
 have := get_l0 key l hl l.length 0 (by omega) k (by omega)
 exact this
def hasL : List UInt8 → List UInt8 → Bool
  | [], p => p.isEmpty
  | b :: l, p => p.isPrefixOf (b :: l) || hasL l p
theorem contains_hasL (s p : List UInt8) : Lib.contains s p = hasL s p := by
 unfold Lib.contains
 induction s with
 | nil => unfold Lib.index hasL; cases p <;> rfl
 | cons b l ih =>
  unfold Lib.index hasL
  rw [← ih]
  by_cases h : p.isPrefixOf (b :: l) = true
  ·
   rw [if_pos h, h]; rfl
  ·
   rw [if_neg h, Bool.eq_false_iff.2 h, Bool.false_or]
   have := Lib.index_ge l p
   by_cases h1 : (Lib.index l p == -1) = true
   ·
    rw [if_pos h1, beq_iff_eq.1 h1]
   ·
    rw [if_neg h1]
    have h1' : Lib.index l p ≠ -1 := fun e => h1 (beq_iff_eq.2 e)
    rw [decide_eq_true (by omega), decide_eq_true (by omega)]
theorem hasL_short : ∀ (s p : List UInt8), s.length < p.length → hasL s p = false
 | [], p, h => by cases p with
  | nil => simp at h
  | cons a t => rfl
 | b :: l, p, h => by
  rw [hasL, hasL_short l p (by simp at h; omega), Bool.or_false]
  refine Bool.eq_false_iff.2 fun e => ?_
  have := List.IsPrefix.length_le (List.isPrefixOf_iff_prefix.1 e)
  simp at h this; omega
theorem has_l0 (s p : ByteArray) (hs : s.size < 4611686018427387904) (hp : p.size ≤ 4611686018427387904) : ∀ (n i : Nat), i + n = s.size → ∀ k, n < k → belfryref04_Has.l0 k s p (i : Int) = some (hasL (s.data.toList.drop i) p.data.toList)
 | _, _, _, 0, hk => absurd hk (by omega)
 | n, i, hn, k + 1, hk => by
  have hsl : s.data.toList.length = s.size := by simp
  have hpl : p.data.toList.length = p.size := by simp
  rw [belfryref04_Has.l0, wrap_small (n := (i : Int) + (p.size : Int)) (by omega) (by omega)]
  by_cases hle : i + p.size ≤ s.size
  ·
   rw [if_pos (by omega), if_pos (by omega), if_pos (by omega), Lib.extract_toList]
   have e1 : ((i : Int) + (p.size : Int)).toNat - ((i : Int)).toNat = p.data.toList.length := by omega
   have e2 : ((i : Int)).toNat = i := by omega
   rw [e1, e2]
   by_cases he : (s.data.toList.drop i).take p.data.toList.length = p.toList
   ·
    rw [if_pos he]
    rw [Lib.toList_data] at he
    have hpre : p.data.toList.isPrefixOf (s.data.toList.drop i) = true := List.isPrefixOf_iff_prefix.2 (by rw [← he]; exact List.take_prefix _ _)
    cases hd : s.data.toList.drop i with
    | nil => rw [hd] at hpre; rw [hasL]; cases hq : p.data.toList with
     | nil => rfl
     | cons a t => rw [hq] at hpre; simp at hpre
    | cons b l => rw [hd] at hpre; rw [hasL, hpre, Bool.true_or]
   ·
    rw [if_neg he]
    rw [Lib.toList_data] at he
    have hpre : p.data.toList.isPrefixOf (s.data.toList.drop i) = false := Bool.eq_false_iff.2 fun e => he (List.prefix_iff_eq_take.1 (List.isPrefixOf_iff_prefix.1 e)).symm
    have hi : i < s.size := by
     rcases Nat.lt_or_ge i s.size with h | h
     ·
      exact h
     ·
      exfalso
      have h0 : p.size = 0 := by omega
      have : p.data.toList = [] := List.eq_nil_of_length_eq_zero (hpl.trans h0)
      rw [this] at he; simp at he
    obtain ⟨n, rfl⟩ : ∃ m, n = m + 1 := ⟨n - 1, by omega⟩
    rw [wrap_small (n := (i : Int) + 1) (by omega) (by omega), show (i : Int) + 1 = ((i + 1 : Nat) : Int) by omega, has_l0 s p hs hp n (i + 1) (by omega) k (by omega)]
    have hd : s.data.toList.drop i = s.data.toList[i]'(by omega) :: s.data.toList.drop (i + 1) := List.drop_eq_getElem_cons (by omega)
    rw [hd] at hpre ⊢
    rw [hasL, hpre, Bool.false_or]
  ·
   rw [if_neg (by omega), hasL_short _ _ (by simp; omega)]
theorem has_ev (s p : ByteArray) (hs : s.size < 4611686018427387904) (hp : p.size ≤ 4611686018427387904) : Ev (fun k => belfryref04_Has.f k s p) (hasL s.data.toList p.data.toList) := by
 refine ⟨s.size + 1, fun k hk => ?_⟩
 have := has_l0 s p hs hp s.size 0 (by omega) k (by omega)
 exact this
theorem ref_get_l0 (key : ByteArray) (l : List S62) (hl : l.length < 4398046511104) : ∀ (n i : Nat), i + n = l.length → ∀ k, n < k → belfryref04_Get.l0 k l key (i : Int) = some (getL key (l.drop i))
 | _, _, _, 0, hk => absurd hk (by omega)
 | 0, i, hn, k + 1, hk => by
  rw [belfryref04_Get.l0, if_neg (by omega), List.drop_of_length_le (show l.length ≤ i by omega)]; rfl
 | n + 1, i, hn, k + 1, hk => by
  have hi : i < l.length := by omega
  rw [belfryref04_Get.l0, if_pos (by omega), if_pos (by omega), rd_at l i hi, drop_cons l i hi, getL, wrap_small (n := (i : Int) + 1) (by omega) (by omega), show (i : Int) + 1 = ((i + 1 : Nat) : Int) by omega, ref_get_l0 key l hl n (i + 1) (by omega) k (by omega)]
  simp only [Lib.toList_data]
  by_cases h : keyL l[i] = key.data.toList
  ·
   rw [if_pos h, if_pos h]
  ·
   rw [if_neg h, if_neg h]
theorem ref_get_ev (key : ByteArray) (l : List S62) (hl : l.length < 4398046511104) : Ev (fun k => belfryref04_Get.f k l key) (getL key l) := by
 refine ⟨l.length + 1, fun k hk => ?_⟩
 have := ref_get_l0 key l hl l.length 0 (by omega) k (by omega)
 exact this
def holdB (x : S33) (v : ByteArray) : Bool :=
  if x.f0 = 1 then v.data.toList == x.f2.data.toList else if x.f0 = 2 then v.data.toList != x.f2.data.toList else if x.f0 = 3 then hasL v.data.toList x.f2.data.toList else if x.f0 = 4 then !hasL v.data.toList x.f2.data.toList else false
def fitsL (l : List S62) (m : List S33) : Bool := m.all fun x => holdB x (getL x.f1 l).1
def smallA (l : List S62) : Prop := ∀ x ∈ l, x.f1.size < 4294967281
def smallM (m : List S33) : Prop := m.length ≤ 1048576 ∧ ∀ x ∈ m, x.f2.size ≤ 4611686018427387904
theorem getL_small {l : List S62} (h : smallA l) (key : ByteArray) : (getL key l).1.size < 4294967281 := by
 induction l with
 | nil => show (0 : Nat) < _; omega
 | cons x l ih =>
  rw [getL]
  split
  ·
   exact h x (List.mem_cons_self ..)
  ·
   exact ih fun y hy => h y (List.mem_cons_of_mem _ hy)
theorem rd_at54 (l : List S33) (i : Nat) (h : i < l.length) : rd_T33 l (i : Int) = l[i] := by simp [rd_T33, h]
theorem drop_cons54 (l : List S33) (i : Nat) (h : i < l.length) : l.drop i = l[i] :: l.drop (i + 1) := List.drop_eq_getElem_cons h
theorem fits_l0 (l : List S62) (hl : l.length < 4398046511104) (hs : smallA l) (m : List S33) (hm : smallM m) : ∀ (n i : Nat), i + n = m.length → Ev (fun k => attr_Fits.l0 k l m (m.length : Int) (i : Int)) (fitsL l (m.drop i))
 | 0, i, hn => by
  refine ⟨1, fun k hk => ?_⟩
  obtain ⟨k, rfl⟩ : ∃ j, k = j + 1 := ⟨k - 1, by omega⟩
  dsimp only
  rw [attr_Fits.l0, if_neg (by omega), List.drop_of_length_le (show m.length ≤ i by omega)]; rfl
 | n + 1, i, hn => by
  have hi : i < m.length := by omega
  have ih := fits_l0 l hl hs m hm n (i + 1) (by omega)
  have hml := hm.1
  have hsz := getL_small hs m[i].f1
  refine Ev.succ (g := fun k => (attr_Get.f k l (m[i].f1)).bind fun bt414 => (if m[i].f0 = 1 then (if (bt414.1.toList = (m[i].f2).toList) then (attr_Fits.l0 k l m (m.length : Int) ((i + 1 : Nat) : Int)) else (some false)) else (if m[i].f0 = 2 then (if bt414.1.toList = (m[i].f2).toList then (some false) else (attr_Fits.l0 k l m (m.length : Int) ((i + 1 : Nat) : Int))) else (if m[i].f0 = 3 then ((strings_Contains.f bt414.1 (m[i].f2)).bind fun t416 => (if t416 = true then (attr_Fits.l0 k l m (m.length : Int) ((i + 1 : Nat) : Int)) else (some false))) else (if m[i].f0 = 4 then ((strings_Contains.f bt414.1 (m[i].f2)).bind fun t417 => (if t417 = true then (some false) else (attr_Fits.l0 k l m (m.length : Int) ((i + 1 : Nat) : Int)))) else (some false)))))) ?_ (fun k => by
   rw [attr_Fits.l0, if_pos (by omega), if_pos (by omega), if_pos (by omega), rd_at54 m i hi, wrap_small (n := (i : Int) + 1) (by omega) (by omega), show (i : Int) + 1 = ((i + 1 : Nat) : Int) by omega])
  refine Ev.bind (get_ev m[i].f1 l hl) ?_
  rw [drop_cons54 m i hi]
  unfold fitsL
  rw [List.all_cons]
  change Ev _ (holdB m[i] (getL m[i].f1 l).1 && fitsL l (m.drop (i + 1)))
  unfold strings_Contains.f holdB
  simp only [if_pos hsz, contains_hasL, Lib.toList_data, Option.bind_some]
  by_cases h1 : m[i].f0 = 1
  ·
   simp only [if_pos h1]
   by_cases he : (getL m[i].f1 l).1.data.toList = m[i].f2.data.toList
   ·
    simp only [if_pos he, beq_iff_eq.2 he, Bool.true_and]; exact ih
   ·
    simp only [if_neg he, beq_eq_false_iff_ne.2 he, Bool.false_and]; exact Ev.const rfl
  ·
   simp only [if_neg h1]
   by_cases h2 : m[i].f0 = 2
   ·
    simp only [if_pos h2]
    by_cases he : (getL m[i].f1 l).1.data.toList = m[i].f2.data.toList
    ·
     simp only [if_pos he, bne_eq_false_iff_eq.2 he, Bool.false_and]; exact Ev.const rfl
    ·
     simp only [if_neg he, bne_iff_ne.2 he, Bool.true_and]; exact ih
   ·
    simp only [if_neg h2]
    by_cases h3 : m[i].f0 = 3
    ·
     simp only [if_pos h3]
     cases hasL (getL m[i].f1 l).1.data.toList m[i].f2.data.toList with
     | true => simp only [if_true, Bool.true_and]; exact ih
     | false => simp only [Bool.false_eq_true, if_false, Bool.false_and]; exact Ev.const rfl
    ·
     simp only [if_neg h3]
     by_cases h4 : m[i].f0 = 4
     ·
      simp only [if_pos h4]
      cases hasL (getL m[i].f1 l).1.data.toList m[i].f2.data.toList with
      | true => simp only [if_true, Bool.not_true, Bool.false_and]; exact Ev.const rfl
      | false => simp only [Bool.false_eq_true, if_false, Bool.not_false, Bool.true_and]; exact ih
     ·
      simp only [if_neg h4, Bool.false_and]; exact Ev.const rfl
theorem fits_ev (l : List S62) (hl : l.length < 4398046511104) (hs : smallA l) (m : List S33) (hm : smallM m) : Ev (fun k => attr_Fits.f k l m) (fitsL l m) := by
 have := fits_l0 l hl hs m hm m.length 0 (by omega)
 exact this
theorem holds_ev (x : S33) (v : ByteArray) (hv : v.size < 4611686018427387904) (hx : x.f2.size ≤ 4611686018427387904) : Ev (fun k => belfryref04_Holds.f k x.f0 x.f1 x.f2 v) (holdB x v) := by
 unfold belfryref04_Holds.f holdB
 simp only [Lib.toList_data]
 by_cases h1 : x.f0 = 1
 ·
  simp only [if_pos h1]; exact Ev.const rfl
 ·
  simp only [if_neg h1]
  by_cases h2 : x.f0 = 2
  ·
   simp only [if_pos h2]; exact Ev.const rfl
  ·
   simp only [if_neg h2]
   by_cases h3 : x.f0 = 3
   ·
    simp only [if_pos h3]; exact Ev.bind (has_ev v x.f2 hv hx) (Ev.const rfl)
   ·
    simp only [if_neg h3]
    by_cases h4 : x.f0 = 4
    ·
     simp only [if_pos h4]; exact Ev.bind (has_ev v x.f2 hv hx) (Ev.const rfl)
    ·
     simp only [if_neg h4]; exact Ev.const rfl
theorem ref_fits_l0 (l : List S62) (hl : l.length < 4398046511104) (hs : smallA l) (m : List S33) (hm : smallM m) : ∀ (n i : Nat), i + n = m.length → Ev (fun k => belfryref04_Fits.l0 k l m (i : Int)) (fitsL l (m.drop i))
 | 0, i, hn => by
  refine ⟨1, fun k hk => ?_⟩
  obtain ⟨k, rfl⟩ : ∃ j, k = j + 1 := ⟨k - 1, by omega⟩
  dsimp only
  rw [belfryref04_Fits.l0, if_neg (by omega), List.drop_of_length_le (show m.length ≤ i by omega)]; rfl
 | n + 1, i, hn => by
  have hi : i < m.length := by omega
  have ih := ref_fits_l0 l hl hs m hm n (i + 1) (by omega)
  have hml := hm.1
  have hsz := getL_small hs m[i].f1
  refine Ev.succ (g := fun k => (belfryref04_Get.f k l (m[i].f1)).bind fun bt422 => ((belfryref04_Holds.f k (m[i].f0) (m[i].f1) (m[i].f2) bt422.1).bind fun t425 => (if t425 = true then (belfryref04_Fits.l0 k l m ((i + 1 : Nat) : Int)) else (some false)))) ?_ (fun k => by
   rw [belfryref04_Fits.l0, if_pos (by omega), if_pos (by omega), rd_at54 m i hi, wrap_small (n := (i : Int) + 1) (by omega) (by omega), show (i : Int) + 1 = ((i + 1 : Nat) : Int) by omega])
  refine Ev.bind (ref_get_ev m[i].f1 l hl) (Ev.bind (holds_ev m[i] _ (by omega) (hm.2 _ (List.getElem_mem hi))) ?_)
  rw [drop_cons54 m i hi]
  unfold fitsL
  rw [List.all_cons]
  change Ev _ (holdB m[i] (getL m[i].f1 l).1 && fitsL l (m.drop (i + 1)))
  cases holdB m[i] (getL m[i].f1 l).1 with
  | true => simp only [if_true, Bool.true_and]; exact ih
  | false => simp only [Bool.false_eq_true, if_false, Bool.false_and]; exact Ev.const rfl
theorem ref_fitsA_ev (l : List S62) (hl : l.length < 4398046511104) (hs : smallA l) (m : List S33) (hm : smallM m) : Ev (fun k => belfryref04_Fits.f k l m) (fitsL l m) := by
 have := ref_fits_l0 l hl hs m hm m.length 0 (by omega)
 exact this
def inB (ks : List ByteArray) (s : ByteArray) : Bool := ks.any fun a => a.data.toList == s.data.toList
theorem rdOf_atB (ks : List ByteArray) (i : Nat) (h : i < ks.length) : rdOf ByteArray.empty ks (i : Int) = ks[i] := by simp [rdOf, h]
theorem index_l0B (ks : List ByteArray) (s : ByteArray) (hks : ks.length < 4611686018427387904) : ∀ (n i : Nat), i + n = ks.length → ∃ r : Int, decide (r ≥ 0) = inB (ks.drop i) s ∧ ∀ k, n < k → slices_Index_string_string.l0 k ks s (ks.length : Int) (i : Int) = some r
 | 0, i, hn => ⟨-1, by rw [List.drop_of_length_le (show ks.length ≤ i by omega)]; rfl, fun k hk => by
  obtain ⟨k, rfl⟩ : ∃ j, k = j + 1 := ⟨k - 1, by omega⟩
  rw [slices_Index_string_string.l0, if_neg (by omega)]⟩
 | n + 1, i, hn => by
  have hi : i < ks.length := by omega
  obtain ⟨r, hr, hk'⟩ := index_l0B ks s hks n (i + 1) (by omega)
  have hd : ks.drop i = ks[i] :: ks.drop (i + 1) := List.drop_eq_getElem_cons hi
  by_cases h : s.data.toList = ks[i].data.toList
  ·
   refine ⟨i, ?_, fun k hk => ?_⟩
   ·
    rw [hd, inB, List.any_cons, h]; simp
   ·
    obtain ⟨k, rfl⟩ : ∃ j, k = j + 1 := ⟨k - 1, by omega⟩
    rw [slices_Index_string_string.l0, if_pos (by omega), if_pos (by omega), if_pos (by omega), rdOf_atB ks i hi]
    simp only [Lib.toList_data]
    rw [if_pos h]
  ·
   refine ⟨r, ?_, fun k hk => ?_⟩
   ·
    rw [hd, inB, List.any_cons, beq_eq_false_iff_ne.2 (fun e => h e.symm), Bool.false_or]; exact hr
   ·
    obtain ⟨k, rfl⟩ : ∃ j, k = j + 1 := ⟨k - 1, by omega⟩
    rw [slices_Index_string_string.l0, if_pos (by omega), if_pos (by omega), if_pos (by omega), rdOf_atB ks i hi]
    simp only [Lib.toList_data]
    rw [if_neg h, wrap_small (n := (i : Int) + 1) (by omega) (by omega)]
    exact hk' k (by omega)
theorem contains_evB (ks : List ByteArray) (s : ByteArray) (hks : ks.length < 4611686018427387904) : Ev (fun k => slices_Contains_string_string.f k ks s) (inB ks s) := by
 obtain ⟨r, hr, hk⟩ := index_l0B ks s hks ks.length 0 (by omega)
 refine ⟨ks.length + 1, fun k hk' => ?_⟩
 dsimp only
 unfold slices_Contains_string_string.f slices_Index_string_string.f
 have := hk k (by omega)
 rw [show ((0 : Nat) : Int) = 0 from rfl] at this
 rw [this, Option.bind_some, hr]
 rfl
def woK (ks : List ByteArray) (l : List S62) : List S62 := l.filter fun x => !inB ks x.f0
theorem wok_l0 (ks : List ByteArray) (hks : ks.length < 4611686018427387904) (l : List S62) (hl : l.length < 4398046511104) : ∀ (n i : Nat) (m : List S62), i + n = l.length → m.length ≤ i → Ev (fun k => attr_Without.l0 k ks m l (l.length : Int) (i : Int)) (m ++ woK ks (l.drop i))
 | 0, i, m, hn, hm => by
  refine ⟨1, fun k hk => ?_⟩
  obtain ⟨k, rfl⟩ : ∃ j, k = j + 1 := ⟨k - 1, by omega⟩
  dsimp only
  rw [attr_Without.l0, if_neg (by omega), List.drop_of_length_le (show l.length ≤ i by omega)]
  simp [woK]
 | n + 1, i, m, hn, hm => by
  have hi : i < l.length := by omega
  obtain ⟨C, hC⟩ := contains_evB ks l[i].f0 hks
  obtain ⟨K1, h1⟩ := wok_l0 ks hks l hl n (i + 1) m (by omega) (by omega)
  obtain ⟨K2, h2⟩ := wok_l0 ks hks l hl n (i + 1) (m ++ [l[i]]) (by omega) (by simp; omega)
  refine ⟨C + K1 + K2 + 1, fun k hk => ?_⟩
  obtain ⟨k, rfl⟩ : ∃ j, k = j + 1 := ⟨k - 1, by omega⟩
  have hC' := hC k (by omega)
  have h1' := h1 k (by omega)
  have h2' := h2 k (by omega)
  dsimp only at hC' h1' h2' ⊢
  rw [attr_Without.l0, if_pos (by omega), if_pos (by omega), if_pos (by omega), rd_at l i hi, hC', Option.bind_some, wrap_small (n := (i : Int) + 1) (by omega) (by omega), drop_cons l i hi]
  unfold woK
  rw [List.filter_cons]
  cases h : inB ks l[i].f0 with
  | true =>
   rw [if_pos rfl, if_neg (by simp)]
   exact h1'
  | false =>
   rw [if_neg (by simp), if_pos (by omega), if_pos (by simp)]
   refine h2'.trans ?_
   simp [woK]
theorem wok_ev (ks : List ByteArray) (hks : ks.length < 4611686018427387904) (l : List S62) (hl : l.length < 4398046511104) : Ev (fun k => attr_Without.f k l ks) (woK ks l) := by
 have := wok_l0 ks hks l hl l.length 0 [] (by omega) (Nat.le_refl _)
 exact this
theorem rwok_l1 (ks : List ByteArray) (hks : ks.length < 4611686018427387904) (l : List S62) (hl : l.length < 4398046511104) (m : List S62) (i : Nat) (hi : i < l.length) (hm : m.length ≤ i) (r : List S62) (K : Nat)
  (h1 : ∀ k, K ≤ k → belfryref04_Without.l0 k l ks (if inB ks l[i].f0 then m else m ++ [l[i]]) ((i + 1 : Nat) : Int) = some r) : ∀ (n j : Nat) (has : Bool), j + n = ks.length → (has || inB (ks.drop j) l[i].f0) = inB ks l[i].f0 → ∀ k, K + n < k → belfryref04_Without.l1 k l ks m (i : Int) has (j : Int) = some r
 | _, _, _, _, _, 0, hk => absurd hk (by omega)
 | 0, j, has, hn, hh, k + 1, hk => by
  rw [List.drop_of_length_le (show ks.length ≤ j by omega)] at hh
  have hh' : has = inB ks l[i].f0 := by rw [← hh]; simp [inB]
  rw [belfryref04_Without.l1, if_neg (by omega)]
  have := h1 k (by omega)
  rw [← hh'] at this
  cases has with
  | true =>
   rw [if_pos rfl] at this ⊢
   rw [wrap_small (n := (i : Int) + 1) (by omega) (by omega)]; exact this
  | false =>
   rw [if_neg (by simp)] at this ⊢
   rw [if_pos (by omega), if_pos (by omega), if_pos (by omega), rd_at l i hi, wrap_small (n := (i : Int) + 1) (by omega) (by omega)]; exact this
 | n + 1, j, has, hn, hh, k + 1, hk => by
  have hj : j < ks.length := by omega
  have hd : ks.drop j = ks[j] :: ks.drop (j + 1) := List.drop_eq_getElem_cons hj
  rw [hd, inB, List.any_cons] at hh
  rw [belfryref04_Without.l1, if_pos (by omega), wrap_small (n := (j : Int) + 1) (by omega) (by omega), show (j : Int) + 1 = ((j + 1 : Nat) : Int) by omega]
  cases has with
  | true =>
   rw [if_pos rfl]
   exact rwok_l1 ks hks l hl m i hi hm r K h1 n (j + 1) true (by omega) (by rw [← hh]; simp) k (by omega)
  | false =>
   rw [if_neg (by simp), if_pos (by omega), if_pos (by omega), if_pos (by omega), rd_at l i hi, rdOf_atB ks j hj]
   simp only [Lib.toList_data]
   exact rwok_l1 ks hks l hl m i hi hm r K h1 n (j + 1) _ (by omega) (by rw [← hh, Bool.false_or]; rfl) k (by omega)
theorem rwok_l0 (ks : List ByteArray) (hks : ks.length < 4611686018427387904) (l : List S62) (hl : l.length < 4398046511104) : ∀ (n i : Nat) (m : List S62), i + n = l.length → m.length ≤ i → Ev (fun k => belfryref04_Without.l0 k l ks m (i : Int)) (m ++ woK ks (l.drop i))
 | 0, i, m, hn, hm => by
  refine ⟨1, fun k hk => ?_⟩
  obtain ⟨k, rfl⟩ : ∃ j, k = j + 1 := ⟨k - 1, by omega⟩
  dsimp only
  rw [belfryref04_Without.l0, if_neg (by omega), List.drop_of_length_le (show l.length ≤ i by omega)]
  simp [woK]
 | n + 1, i, m, hn, hm => by
  have hi : i < l.length := by omega
  obtain ⟨K, hK⟩ := rwok_l0 ks hks l hl n (i + 1) (if inB ks l[i].f0 then m else m ++ [l[i]]) (by omega) (by
   split
   ·
    omega
   ·
    simp; omega)
  refine ⟨K + ks.length + 2, fun k hk => ?_⟩
  obtain ⟨k, rfl⟩ : ∃ j, k = j + 1 := ⟨k - 1, by omega⟩
  dsimp only
  rw [belfryref04_Without.l0, if_pos (by omega)]
  have := rwok_l1 ks hks l hl m i hi hm _ K (fun k hk => hK k hk) ks.length 0 false (by omega) (by simp) k (by omega)
  rw [show ((0 : Nat) : Int) = 0 from rfl] at this
  rw [this, drop_cons l i hi]
  unfold woK
  rw [List.filter_cons]
  cases inB ks l[i].f0 <;> simp
theorem rwok_ev (ks : List ByteArray) (hks : ks.length < 4611686018427387904) (l : List S62) (hl : l.length < 4398046511104) : Ev (fun k => belfryref04_Without.f k l ks) (woK ks l) := by
 have := rwok_l0 ks hks l hl l.length 0 [] (by omega) (Nat.le_refl _)
 exact this
theorem woK_len (ks : List ByteArray) (l : List S62) : (woK ks l).length ≤ l.length := List.length_filter_le _ _
end Go.Proofs.YtkedidjjhhjdbaaGreatDoor.Pr
end
section
set_option linter.unusedVariables false
set_option linter.unusedSimpArgs false
namespace Go.Proofs.YtkedidjjhhjdbaaGreatDoor.Pr
open Go.RowKit Go.Proofs.YtkedidjjhhjdbaaGreatDoorW.PrintWords Go.Proofs.YtkedidjjhhjdbaaGreatDoorW.PrintLast Go.Proofs.YtkedidjjhhjdbaaGreatDoorW.PrintMore
def z52 : Array Value := #[.int .i64 0, .string ⟨#[]⟩, .slice none 0 0, .int .i64 0, .int .i64 0, .int .i64 0, .int .i64 0, .string ⟨#[]⟩, .int .u8 0, .int .u8 0, .int .u8 0, .int .u8 0, .int .u8 0, .int .u8 0, .int .u8 0, .int .u8 0, .int .u8 0, .int .u8 0, .int .u8 0, .int .u8 0, .int .u8 0, .int .u8 0, .int .u8 0, .int .u8 0, .int .u8 0, .int .u8 0, .int .u8 0, .int .u8 0, .int .u8 0, .int .u8 0, .int .u8 0, .int .u8 0, .int .u8 0, .int .u8 0, .int .u8 0, .int .u8 0, .int .u8 0, .int .u8 0, .int .u8 0, .int .u8 0]
def policy_Sees.go (k : Nat) (ts : List S62) : List S31 → Option (Option (List S62))
  | [] => some none
  | x :: xs => (attr_Fits.f k ts x.f1).bind fun b => if b = true then (attr_Without.f k ts x.f2).map some else policy_Sees.go k ts xs
def Seen52 (cs : Array Value) (base : Nat) (r : Option (List S62)) (e : Ending) (w' : World) : Prop :=
  match r with
  | none => e = .returned (.tuple #[.agg z52, .bool false])
  | some ts' => ∃ v, e = .returned (.tuple #[.agg (cs.setIfInBounds 2 v), .bool true]) ∧ Kd.R k62 62 w' base (fun _ => True) v ts'
theorem below_setRow {B : Nat} {w W : World} (h : Below B w W) {g : Nat} (hg : B ≤ g) (cs : Array Value) : Below B w (W.setRow g cs) := by
 refine ⟨h.os, h.tape, h.output, by simpa [World.setRow] using h.size, fun i hi => ?_⟩
 rw [← h.block i hi]
 show (W.heap.modify g _)[i]? = _
 rw [Array.getElem?_modify, if_neg (by omega)]
theorem blk_setRow {W : World} {g t : Nat} {old cs : Array Value} (h : W.heap[g]? = some (.cells old t (0, 0))) : (W.setRow g cs).heap[g]? = some (.cells cs t (0, 0)) := setRow_heap W g old cs t (0, 0) h
theorem results_cell_tmp {P : Program} {fn : Func} {p u : Tmp} {ty : TypeId} (h : fn.results = #[.cell p ty, .tmp u]) (tmps : Array Value) (w : World) (g : Nat) (t : TypeId) (cs : Array Value) (fr : Nat × Nat) (d : TypeDesc)
  (hp : tmps.getD p undef = .pointer (some ⟨g, 0, none⟩)) (hg : w.heap[g]? = some (.cells cs t fr))
  (hu : P.underlying ty = some d) (hd : (match d with | .struct _ | .array _ _ => true | _ => false) = true) (hi : (P.info? ty).map (·.size) = some cs.size) :
  (results fn tmps).run P w = .ok (.tuple #[.agg cs, tmps.getD u undef]) w := by
 have hp' : tmps[p]?.getD undef = .pointer (some ⟨g, 0, none⟩) := by simpa using hp
 simp [results, h, hp', asAddr, run_loadVar_row w g t ty cs fr d hg hu hd hi]
theorem R_setRow {α : Type} {d : Kd α} {e : Nat} {w : World} {base : Nat} {ok : Nat → Prop} {v : Value} {xs : List α} (h : d.R e w base ok v xs) {g t : Nat} {cells : Array Value} (hb : w.heap[g]? = some (.cells cells t (0, 0))) (ht : ∀ q, q ∈ e :: d.E → q ≠ t) (cs : Array Value) : d.R e (w.setRow g cs) base ok v xs :=
 Kd.R_mono (Kd.R_step (Kd.R_types h hb ht) (fun k hk _ => by
  show (w.heap.modify g _)[k]? = _
  rw [Array.getElem?_modify, if_neg (fun e => hk.2 e.symm)])) (fun _ hk => hk.1)
set_option maxHeartbeats 8000000 in
set_option maxRecDepth 100000 in
theorem policy_Sees.calls (k : Nat) (A : Option Addr) (c : Nat) (vs : List S31) (cs : Array Value) (B : Option Addr) (cb : Nat) (ts : List S62) (r : Option (List S62)) (w : World)
  (hv : Kd.C k31 w A vs.length vs) (hvc : vs.length ≤ c) (hs : cs.size = 40) (h1 : cs.all (·.oneCell') = true) (h2 : cs[2]? = some (.slice B ts.length cb)) (ha : Kd.C k62 w B ts.length ts) (hac : ts.length ≤ cb)
  (h : policy_Sees.go k ts vs = some r) (he : EnvW w) :
  Calls Tryz.prog 25 #[.slice A vs.length c, .agg cs] w fun e w' => Seen52 cs w.heap.size r e w' ∧ Below w.heap.size w w' := by
 have hu52 := Tryz.underlying52
 have hu31 := Tryz.underlying31
 have hvm := Kd.C_max hv
 have HV := Aside0.mk hv
 have HA := Aside0.mk ha
 have H1 := Aside0.mk h1
 have HE := Aside0.mk he
 clear hv ha h1 he
 go_enter Tryz.func25, Tryz.ntmps25
 go_wp2
 have hz : Aside0 (((w.alloc (.cells cs 52)).alloc (.cells z52 52)).heap[w.heap.size]? = some (.cells cs 52 (0, 0)) ∧ ((w.alloc (.cells cs 52)).alloc (.cells z52 52)).heap[w.heap.size + 1]? = some (.cells z52 52 (0, 0)) ∧ Below w.heap.size w ((w.alloc (.cells cs 52)).alloc (.cells z52 52))) := by
  refine ⟨blk_alloc (blk_new w _) _, ?_, below_alloc (below_alloc (Below.refl _ _) _) _⟩
  have := blk_new (w.alloc (.cells cs 52)) (.cells z52 52)
  simpa using this
 have hzz := hz.out
 unfold z52 at hzz
 obtain ⟨W0, hW0⟩ : ∃ W, W = ((w.alloc (.cells cs 52)).alloc (.cells z52 52)) := ⟨_, rfl⟩
 have hW0' := hW0
 unfold z52 at hW0'
 rw [← hW0'] at ⊢
 rw [← hW0] at hz
 clear hzz hW0 hW0'
 go_loopw [10] (fun v10 ws => ∃ i : Nat, i ≤ vs.length ∧ v10 = .int .i64 i ∧ Aside0 (policy_Sees.go k ts (vs.drop i) = some r) ∧ Aside0 (ws.heap[w.heap.size]? = some (.cells cs 52 (0, 0)) ∧ ws.heap[w.heap.size + 1]? = some (.cells z52 52 (0, 0)) ∧ Below w.heap.size w ws)) (fun v10 _ => vs.length - (intOf v10).toNat)
 case atStart => exact ⟨0, Nat.zero_le _, rfl, ⟨h⟩, hz⟩
 case round =>
  clear hz h
  obtain ⟨i, hi, rfl, HH, HB⟩ := hrel
  by_cases hlt : i < vs.length
  ·
   have b2 : decide ((i : Int) < (vs.length : Int)) = true := decide_eq_true (by omega)
   have b3 : decide (i < vs.length) = true := decide_eq_true hlt
   have p0 := eq_true (show (0 : Int) ≤ (i : Int) by omega)
   have q0 := eq_true (show (i : Int) < (vs.length : Int) by omega)
   have HV2 := Aside0.mk (Kd.C_below HV.out HB.out.2.2)
   obtain ⟨ad, A1, c1, A2, c2, rfl, hx0, hx1, hx2, l1, g1, l2, g2⟩ := at_T31 HV2.out (i : Int) (by omega) (by omega)
   simp only [Int.toNat_natCast] at hx0 hx1 hx2
   have hrd : rd_T31 vs (i : Int) = vs[i] := by simp [rd_T31, List.getD_eq_getElem?_getD, List.getElem?_eq_getElem hlt]
   rw [hrd] at hx0 hx1 hx2 l1 g1 l2 g2
   obtain ⟨x, hx⟩ : ∃ x, x = vs[i] := ⟨_, rfl⟩
   rw [← hx] at hx0 hx1 hx2 l1 g1 l2 g2
   have HG1 := Aside0.mk g1
   have HG2 := Aside0.mk g2
   clear g1 g2 hrd
   have hc2 : ∀ o, (wr.alloc o).cell? ⟨w.heap.size, 2, none⟩ = some (.slice B ts.length cb) := fun o => (blk_cell (blk_alloc HB.out.1 o) 2).trans h2
   have HH2 : Aside0 ((attr_Fits.f k ts x.f1).bind (fun b => if b = true then (attr_Without.f k ts x.f2).map some else policy_Sees.go k ts (vs.drop (i + 1))) = some r) := by
    have := HH.out
    rw [List.drop_eq_getElem_cons hlt] at this
    rw [hx]
    exact ⟨this⟩
   clear HH
   obtain ⟨bf, hbf, hrest⟩ := Option.bind_eq_some_iff.mp HH2.out
   have HF := Aside0.mk hbf
   have HR := Aside0.mk hrest
   clear hbf hrest HH2 hx
   go_wp2_with fail
   refine (attr_Fits.calls k B cb ts A1 c1 x.f1 bf _ (Kd.C_alloc (Kd.C_below HA.out HB.out.2.2) _) hac (Kd.C_alloc HG1.out _) l1 HF.out (env_alloc (env_below HE.out HB.out.2.2))).mono ?_
   rintro e w1 ⟨rfl, hb1⟩
   have hB1 : Aside0 (w1.heap[w.heap.size]? = some (.cells cs 52 (0, 0)) ∧ w1.heap[w.heap.size + 1]? = some (.cells z52 52 (0, 0)) ∧ w1.heap[wr.heap.size]? = some (.cells #[.string x.f0, .slice A1 x.f1.length c1, .slice A2 x.f2.length c2] 31 (0, 0)) ∧ Below w.heap.size w w1 ∧ Kd.C Kd.string w1 A2 x.f2.length x.f2) :=
    ⟨blk_below (blk_alloc HB.out.1 _) hb1, blk_below (blk_alloc HB.out.2.1 _) hb1, blk_below (blk_new wr _) hb1, (below_alloc HB.out.2.2 _).trans (hb1.mono (below_alloc HB.out.2.2 _).size), Kd.C_below (Kd.C_alloc HG2.out _) hb1⟩
   clear hb1 hx0 hx1 hx2 hc2 HG1 HG2 HF
   have hc2 : w1.cell? ⟨w.heap.size, 2, none⟩ = some (.slice B ts.length cb) := (blk_cell hB1.out.1 2).trans h2
   have hcx : w1.cell? ⟨wr.heap.size, 2, none⟩ = some (.slice A2 x.f2.length c2) := blk_cell hB1.out.2.2.1 2
   cases bf with
   | false =>
    go_wp2
    go_roundw
    case rel => exact ⟨i + 1, hlt, by go_num, HR, ⟨hB1.out.1, hB1.out.2.1, hB1.out.2.2.2.1⟩⟩
    case measure => simp [intOf]; omega
   | true =>
    obtain ⟨ys, hys, rfl⟩ := Option.map_eq_some_iff.mp HR.out
    have HW := Aside0.mk hys
    clear HR hys
    go_wp2_with fail
    refine (attr_Without.calls k B cb ts A2 c2 x.f2 ys w1 (Kd.C_below HA.out hB1.out.2.2.2.1) hac hB1.out.2.2.2.2 l2 HW.out).mono ?_
    rintro e w2 ⟨v, rfl, hR2, hb2⟩
    obtain ⟨AV, cV, rfl⟩ := Kd.R_slice hR2
    have hB2 : Aside0 (w2.heap[w.heap.size]? = some (.cells cs 52 (0, 0)) ∧ w2.heap[w.heap.size + 1]? = some (.cells z52 52 (0, 0)) ∧ Below w.heap.size w w2) := ⟨blk_below hB1.out.1 hb2, blk_below hB1.out.2.1 hb2, hB1.out.2.2.2.1.trans (hb2.mono hB1.out.2.2.2.1.size)⟩
    have HR2 := Aside0.mk (Kd.R_lower hR2 hB1.out.2.2.2.1.size)
    clear hB1 hc2 hcx hb2 hR2 HW
    have hc2 : w2.cell? ⟨w.heap.size, 2, none⟩ = some (.slice B ts.length cb) := (blk_cell hB2.out.1 2).trans h2
    have hf2 : w2.frozen? ⟨w.heap.size, 2, none⟩ = false := blk_frozen hB2.out.1 2
    have hpa : (cs.setIfInBounds 2 (.slice AV ys.length cV)).size = 40 := by simp [hs]
    have hpb : (cs.setIfInBounds 2 (.slice AV ys.length cV)).all (·.oneCell') = true := by
     rw [Array.all_eq_true]
     intro j hj
     rw [Array.getElem_setIfInBounds (by simpa using hj)]
     split
     ·
      rfl
     ·
      exact (Array.all_eq_true.mp H1.out) j (by simpa using hj)
    have hp1 := blk_set hB2.out.1 2 (.slice AV ys.length cV)
    have hp2 : (w2.setCell ⟨w.heap.size, 2, none⟩ (.slice AV ys.length cV)).heap[w.heap.size + 1]? = some (.cells z52 52 (0, 0)) := blk_far hB2.out.2.1 (by simp) _
    have hp3 : Below w.heap.size w (w2.setCell ⟨w.heap.size, 2, none⟩ (.slice AV ys.length cV)) := hB2.out.2.2.setCell (by simp) _
    have hp4 := Kd.R_set HR2.out hB2.out.1 (by decide) 2 (.slice AV ys.length cV)
    obtain ⟨W, hW⟩ : ∃ W, W = w2.setCell ⟨w.heap.size, 2, none⟩ (.slice AV ys.length cV) := ⟨_, rfl⟩
    obtain ⟨ns, hns⟩ : ∃ ns, ns = cs.setIfInBounds 2 (.slice AV ys.length cV) := ⟨_, rfl⟩
    rw [← hns] at hpa hpb hp1
    rw [← hW] at hp1 hp2 hp3 hp4
    have HP := Aside0.mk (And.intro hp1 (And.intro hp2 (And.intro hp3 (And.intro hp4 (And.intro hpa hpb)))))
    clear hp1 hp2 hp3 hp4 hpa hpb
    rw [hns, hW] at HP
    go_wp2_with (refine wpList_load_row rfl 52 (.tmp 3) rfl w.heap.size rfl 52 (cs.setIfInBounds 2 (.slice AV ys.length cV)) (0, 0) _ HP.out.1 hu52 rfl (by rw [HP.out.2.2.2.2.1]; kernel_rfl) (Aside0.out ?_))
    refine ⟨?_⟩
    refine wpList_store_rowTo rfl 52 (.tmp 4) (.tmp 25) rfl rfl (w.heap.size + 1) (cs.setIfInBounds 2 (.slice AV ys.length cV)) rfl rfl 52 z52 HP.out.2.1 (by rw [HP.out.2.2.2.2.1]; kernel_rfl) (by rw [HP.out.2.2.2.2.1]; rfl) HP.out.2.2.2.2.2 ?_
    go_wp2
    refine bodyPost_ret (results_cell_tmp rfl _ _ (w.heap.size + 1) 52 (cs.setIfInBounds 2 (.slice AV ys.length cV)) (0, 0) _ rfl (blk_setRow HP.out.2.1) hu52 rfl (by rw [HP.out.2.2.2.2.1]; kernel_rfl)) rfl ?_
    exact ⟨⟨_, rfl, R_setRow HP.out.2.2.2.1 HP.out.2.1 (by decide) _⟩, below_setRow HP.out.2.2.1 (by omega) _⟩
  ·
   obtain rfl : i = vs.length := by omega
   have b2 : decide (((vs.length : Nat) : Int) < (vs.length : Int)) = false := decide_eq_false (by omega)
   have b3 : decide (vs.length < vs.length) = false := decide_eq_false hlt
   have hr := HH.out
   rw [List.drop_length] at hr
   obtain rfl := Option.some.inj hr
   go_wp2_with (refine Go.wpList_buildTo rfl 52 #[] rfl (some 27) rfl z52 (by kernel_rfl) (Aside0.out ?_))
   refine ⟨?_⟩
   refine wpList_store_rowTo rfl 52 (.tmp 4) (.tmp 27) rfl rfl (w.heap.size + 1) z52 rfl rfl 52 z52 HB.out.2.1 (by kernel_rfl) rfl (by kernel_rfl) ?_
   go_wp2
   refine bodyPost_ret (results_cell_tmp rfl _ _ (w.heap.size + 1) 52 z52 (0, 0) _ rfl (blk_setRow HB.out.2.1) hu52 rfl (by kernel_rfl)) rfl ?_
   exact ⟨rfl, below_setRow HB.out.2.2 (by omega) _⟩
end Go.Proofs.YtkedidjjhhjdbaaGreatDoor.Pr
end
section
set_option linter.unusedVariables false
set_option linter.unusedSimpArgs false
namespace Go.Proofs.YtkedidjjhhjdbaaGreatDoor.Pr
open Go.RowKit Go.Proofs.YtkedidjjhhjdbaaGreatDoorW.PrintWords Go.Proofs.YtkedidjjhhjdbaaGreatDoorW.PrintLast Go.Proofs.YtkedidjjhhjdbaaGreatDoorW.PrintMore
def belfryref11_Sees.go (k : Nat) (ts : List S62) : List S31 → Option (Option (List S62))
  | [] => some none
  | x :: xs => (belfryref04_Fits.f k ts x.f1).bind fun b => if b = true then (belfryref04_Without.f k ts x.f2).map some else belfryref11_Sees.go k ts xs
def belfryref11_Sees.T4 : Bool × List (List Nat × List Nat) := (true, [([], []), ([0], [0]), ([], []), ([], []), ([2, 3], [2, 3]), ([4], [4]), ([5], [5]), ([1, 6], [1, 6])])
def belfryref11_Sees.B4 : List Nat := [0, 1, 0, 0, 12, 28, 60, 127]
set_option maxRecDepth 100000 in
theorem belfryref11_Sees.tab4 : rtab .any (opsOf Tryz.f26 4) = belfryref11_Sees.T4 := by kernel_rfl
set_option maxRecDepth 100000 in
theorem belfryref11_Sees.bits4 : waitsOk belfryref11_Sees.T4.2 belfryref11_Sees.B4 = true := by kernel_rfl
def belfryref11_Sees.T5 : Bool × List (List Nat × List Nat) := (true, [([], []), ([0], [0]), ([], []), ([], []), ([2, 3], [2, 3]), ([4], [4]), ([5], [5]), ([1, 6], [1, 6]), ([0, 1, 2, 3, 4, 5, 6, 7], []), ([8, 7, 7, 0, 1, 2, 3, 4, 5, 6, 7], [7, 8])])
def belfryref11_Sees.B5 : List Nat := [0, 1, 0, 0, 12, 28, 60, 127, 255, 511]
set_option maxRecDepth 100000 in
theorem belfryref11_Sees.tab5 : rtab .any (opsOf Tryz.f26 5) = belfryref11_Sees.T5 := by kernel_rfl
set_option maxRecDepth 100000 in
theorem belfryref11_Sees.bits5 : waitsOk belfryref11_Sees.T5.2 belfryref11_Sees.B5 = true := by kernel_rfl
set_option maxHeartbeats 8000000 in
set_option maxRecDepth 100000 in
theorem belfryref11_Sees.calls (k : Nat) (A : Option Addr) (c : Nat) (vs : List S31) (cs : Array Value) (B : Option Addr) (cb : Nat) (ts : List S62) (r : Option (List S62)) (w : World)
  (hv : Kd.C k31 w A vs.length vs) (hvc : vs.length ≤ c) (hs : cs.size = 40) (h1 : cs.all (·.oneCell') = true) (h2 : cs[2]? = some (.slice B ts.length cb)) (ha : Kd.C k62 w B ts.length ts) (hac : ts.length ≤ cb)
  (h : belfryref11_Sees.go k ts vs = some r) :
  Calls Tryz.prog 26 #[.slice A vs.length c, .agg cs] w fun e w' => Seen52 cs w.heap.size r e w' ∧ Below w.heap.size w w' := by
 have hu52 := Tryz.underlying52
 have hu31 := Tryz.underlying31
 have hvm := Kd.C_max hv
 have HV := Aside0.mk hv
 have HA := Aside0.mk ha
 have H1 := Aside0.mk h1
 clear hv ha h1
 go_enter Tryz.func26, Tryz.ntmps26
 go_wp2
 have hz : Aside0 (((w.alloc (.cells cs 52)).alloc (.cells z52 52)).heap[w.heap.size]? = some (.cells cs 52 (0, 0)) ∧ ((w.alloc (.cells cs 52)).alloc (.cells z52 52)).heap[w.heap.size + 1]? = some (.cells z52 52 (0, 0)) ∧ Below w.heap.size w ((w.alloc (.cells cs 52)).alloc (.cells z52 52))) := by
  refine ⟨blk_alloc (blk_new w _) _, ?_, below_alloc (below_alloc (Below.refl _ _) _) _⟩
  have := blk_new (w.alloc (.cells cs 52)) (.cells z52 52)
  simpa using this
 obtain ⟨W0, hW0⟩ : ∃ W, W = ((w.alloc (.cells cs 52)).alloc (.cells z52 52)) := ⟨_, rfl⟩
 have hW0' := hW0
 unfold z52 at hW0'
 rw [← hW0'] at ⊢
 rw [← hW0] at hz
 clear hW0 hW0'
 go_loopw [6] (fun v6 ws => ∃ i : Nat, i ≤ vs.length ∧ v6 = .int .i64 i ∧ Aside0 (belfryref11_Sees.go k ts (vs.drop i) = some r) ∧ Aside0 (ws.heap[w.heap.size]? = some (.cells cs 52 (0, 0)) ∧ ws.heap[w.heap.size + 1]? = some (.cells z52 52 (0, 0)) ∧ Below w.heap.size w ws)) (fun v6 _ => vs.length - (intOf v6).toNat)
 case atStart => exact ⟨0, Nat.zero_le _, rfl, ⟨h⟩, hz⟩
 case round =>
  clear hz h
  obtain ⟨i, hi, rfl, HH, HB⟩ := hrel
  by_cases hlt : i < vs.length
  ·
   have b2 : decide ((i : Int) < (vs.length : Int)) = true := decide_eq_true (by omega)
   have b3 : decide (i < vs.length) = true := decide_eq_true hlt
   have p0 := eq_true (show (0 : Int) ≤ (i : Int) by omega)
   have q0 := eq_true (show (i : Int) < (vs.length : Int) by omega)
   have HV2 := Aside0.mk (Kd.C_below HV.out HB.out.2.2)
   have HA2 := Aside0.mk (Kd.C_below HA.out HB.out.2.2)
   obtain ⟨ad, A1, c1, A2, c2, rfl, hx0, hx1, hx2, l1, g1, l2, g2⟩ := at_T31 HV2.out (i : Int) (by omega) (by omega)
   simp only [Int.toNat_natCast] at hx0 hx1 hx2
   have hrd : rd_T31 vs (i : Int) = vs[i] := by simp [rd_T31, List.getD_eq_getElem?_getD, List.getElem?_eq_getElem hlt]
   rw [hrd] at hx0 hx1 hx2 l1 g1 l2 g2
   obtain ⟨x, hx⟩ : ∃ x, x = vs[i] := ⟨_, rfl⟩
   rw [← hx] at hx0 hx1 hx2 l1 g1 l2 g2
   have HG1 := Aside0.mk g1
   have HG2 := Aside0.mk g2
   clear g1 g2 hrd
   have HH2 : Aside0 ((belfryref04_Fits.f k ts x.f1).bind (fun b => if b = true then (belfryref04_Without.f k ts x.f2).map some else belfryref11_Sees.go k ts (vs.drop (i + 1))) = some r) := by
    have := HH.out
    rw [List.drop_eq_getElem_cons hlt] at this
    rw [hx]
    exact ⟨this⟩
   clear HH
   obtain ⟨bf, hbf, hrest⟩ := Option.bind_eq_some_iff.mp HH2.out
   have HF := Aside0.mk hbf
   have HR := Aside0.mk hrest
   clear hbf hrest HH2 hx
   go_upto_region 4 with (fail)
   refine start_ (n := 8) (S := fun w' => Below wr.heap.size wr w') (ds := []) #[false, false, false, false, false, false, false, false] (by kernel_rfl) rfl rfl (below_drew1 (Below.refl _ _)) (fun hHeld => ?_)
   refine with_tabW belfryref11_Sees.tab4 belfryref11_Sees.bits4 (fun HT_ HW_ => ?_)
   generalize wr.drew = W0 at hHeld ⊢
   refine pure_ (i := 0) (N := some 13) (v := ?_) (a' := ?_) #[true, false, false, false, false, false, false, false] rfl rfl (any_of HT_.out (by kernel_rfl)) (fun _ _ _ h => h) (Or.inl ⟨by rfl, ?_⟩) ?_ ?_
   rotate_left
   ·
    intro w'
    go_simp
    with_reducible rfl
   rotate_left
   ·
    simp only [Act.put, List.setIfInBounds_toArray, List.set_cons_zero, List.set_cons_succ, i64_w, i32_w]
    rfl
   refine take_ (i := 1) (N := some 14) (v := ?_) (a' := ?_) #[true, true, false, false, false, false, false, false] rfl rfl (take_ofW HT_.out HW_.out (by kernel_rfl)) (fun _ _ _ h => h) (Or.inl ⟨by rfl, ?_⟩) hHeld ?_ ?_
   rotate_left
   ·
    rintro w' hw
    have hq := (blk_cell (blk_below HB.out.1 hw) 2).trans h2
    go_simp
    with_reducible rfl
   rotate_left
   ·
    simp only [Act.put, List.setIfInBounds_toArray, List.set_cons_zero, List.set_cons_succ, i64_w, i32_w]
    rfl
   refine pure_ (i := 2) (N := some 15) (v := ?_) (a' := ?_) #[true, true, true, false, false, false, false, false] rfl rfl (any_of HT_.out (by kernel_rfl)) (fun _ _ _ h => h) (Or.inl ⟨by rfl, ?_⟩) ?_ ?_
   rotate_left
   ·
    intro w'
    go_simp
    with_reducible rfl
   rotate_left
   ·
    simp only [Act.put, List.setIfInBounds_toArray, List.set_cons_zero, List.set_cons_succ, i64_w, i32_w]
    rfl
   refine pure_ (i := 3) (N := some 16) (v := ?_) (a' := ?_) #[true, true, true, true, false, false, false, false] rfl rfl (any_of HT_.out (by kernel_rfl)) (fun _ _ _ h => h) (Or.inl ⟨by rfl, ?_⟩) ?_ ?_
   rotate_left
   ·
    intro w'
    go_simp
    with_reducible rfl
   rotate_left
   ·
    simp only [Act.put, List.setIfInBounds_toArray, List.set_cons_zero, List.set_cons_succ, i64_w, i32_w]
    rfl
   refine pure_ (i := 4) (N := some 17) (v := ?_) (a' := ?_) #[true, true, true, true, true, false, false, false] rfl rfl (any_of HT_.out (by kernel_rfl)) (fun _ _ _ h => h) (Or.inl ⟨by rfl, ?_⟩) ?_ ?_
   rotate_left
   ·
    intro w'
    go_simp
    with_reducible rfl
   rotate_left
   ·
    simp only [Act.put, List.setIfInBounds_toArray, List.set_cons_zero, List.set_cons_succ, i64_w, i32_w]
    rfl
   refine pure_ (i := 5) (N := some 18) (v := ?_) (a' := ?_) #[true, true, true, true, true, true, false, false] rfl rfl (any_of HT_.out (by kernel_rfl)) (fun _ _ _ h => h) (Or.inl ⟨by rfl, ?_⟩) ?_ ?_
   rotate_left
   ·
    intro w'
    go_simp
    with_reducible rfl
   rotate_left
   ·
    simp only [Act.put, List.setIfInBounds_toArray, List.set_cons_zero, List.set_cons_succ, i64_w, i32_w]
    rfl
   refine take_ (i := 6) (N := some 19) (v := ?_) (a' := ?_) #[true, true, true, true, true, true, true, false] rfl rfl (take_ofW HT_.out HW_.out (by kernel_rfl)) (fun _ _ _ h => h) (Or.inl ⟨by rfl, ?_⟩) hHeld ?_ ?_
   rotate_left
   ·
    rintro w' hw
    have hq := (hw.cell (World.block_lt_of_cell? wr _ hx1)).trans hx1
    go_simp
    with_reducible rfl
   rotate_left
   ·
    simp only [Act.put, List.setIfInBounds_toArray, List.set_cons_zero, List.set_cons_succ, i64_w, i32_w]
    rfl
   refine one_ (i := 7) (N := some 20) #[true, true, true, true, true, true, true, true] rfl rfl (one_of HT_.out (by kernel_rfl)) (by decide) (fun K hK => ?_)
   refine goes_ Tryz.func29 (by kernel_rfl) rfl #[.slice B ts.length cb, .slice A1 x.f1.length c1] (by rfl) rfl rfl (by (try simp only [List.map_toArray, List.map_cons, List.map_nil]); first | done | rfl) ?_
   refine (belfryref04_Fits.calls k B cb ts A1 c1 x.f1 bf _ (Kd.C_below HA2.out hHeld) hac (Kd.C_below HG1.out hHeld) l1 HF.out).mono ?_
   rintro e w2 ⟨rfl, hd2⟩
   refine ⟨_, rfl, ?_⟩
   refine hK.out _ _ (below_step hHeld hd2) (fun hHeld => ?_)
   clear hK K hd2
   refine norm_ (a' := ?_) ?_ ?_
   rotate_left
   ·
    show Act.put _ (some 20) _ = _
    simp only [Act.put, List.setIfInBounds_toArray, List.set_cons_zero, List.set_cons_succ, i64_w, i32_w]
    rfl
   refine done_ (done_of HT_.out (by kernel_rfl)) ?_
   generalize w2 = w1 at hHeld ⊢
   have hB1 : Aside0 (w1.heap[w.heap.size]? = some (.cells cs 52 (0, 0)) ∧ w1.heap[w.heap.size + 1]? = some (.cells z52 52 (0, 0)) ∧ Below w.heap.size w w1) :=
    ⟨blk_below HB.out.1 hHeld, blk_below HB.out.2.1 hHeld, below_step HB.out.2.2 hHeld⟩
   have HA3 := Aside0.mk (Kd.C_below HA2.out hHeld)
   have HG3 := Aside0.mk (Kd.C_below HG2.out hHeld)
   replace hx0 := (hHeld.cell (World.block_lt_of_cell? wr _ hx0)).trans hx0
   replace hx1 := (hHeld.cell (World.block_lt_of_cell? wr _ hx1)).trans hx1
   replace hx2 := (hHeld.cell (World.block_lt_of_cell? wr _ hx2)).trans hx2
   clear hHeld HF HA2 HG1 HG2 HV2
   cases bf with
   | false =>
    go_wp2
    go_roundw
    case rel => exact ⟨i + 1, hlt, by go_num, HR, ⟨hB1.out.1, hB1.out.2.1, hB1.out.2.2⟩⟩
    case measure => simp [intOf]; omega
   | true =>
    obtain ⟨ys, hys, rfl⟩ := Option.map_eq_some_iff.mp HR.out
    have HW := Aside0.mk hys
    clear HR hys
    go_upto_region 5 with (fail)
    refine start_ (n := 10) (S := fun w' => Below w1.heap.size w1 w') (ds := [9]) #[false, false, false, false, false, false, false, false, false, false] (by kernel_rfl) rfl rfl (below_drew1 (Below.refl _ _)) (fun hHeld => ?_)
    refine with_tabW belfryref11_Sees.tab5 belfryref11_Sees.bits5 (fun HT_ HW_ => ?_)
    generalize w1.drew = W0 at hHeld ⊢
    refine pure_ (i := 0) (N := some 21) (v := ?_) (a' := ?_) #[true, false, false, false, false, false, false, false, false, false] rfl rfl (any_of HT_.out (by kernel_rfl)) (fun _ _ _ h => h) (Or.inl ⟨by rfl, ?_⟩) ?_ ?_
    rotate_left
    ·
     intro w'
     go_simp
     with_reducible rfl
    rotate_left
    ·
     simp only [Act.put, List.setIfInBounds_toArray, List.set_cons_zero, List.set_cons_succ, i64_w, i32_w]
     rfl
    refine take_ (i := 1) (N := some 22) (v := ?_) (a' := ?_) #[true, true, false, false, false, false, false, false, false, false] rfl rfl (take_ofW HT_.out HW_.out (by kernel_rfl)) (fun _ _ _ h => h) (Or.inl ⟨by rfl, ?_⟩) hHeld ?_ ?_
    rotate_left
    ·
     rintro w' hw
     have hq := (blk_cell (blk_below hB1.out.1 hw) 2).trans h2
     go_simp
     with_reducible rfl
    rotate_left
    ·
     simp only [Act.put, List.setIfInBounds_toArray, List.set_cons_zero, List.set_cons_succ, i64_w, i32_w]
     rfl
    refine pure_ (i := 2) (N := some 23) (v := ?_) (a' := ?_) #[true, true, true, false, false, false, false, false, false, false] rfl rfl (any_of HT_.out (by kernel_rfl)) (fun _ _ _ h => h) (Or.inl ⟨by rfl, ?_⟩) ?_ ?_
    rotate_left
    ·
     intro w'
     go_simp
     with_reducible rfl
    rotate_left
    ·
     simp only [Act.put, List.setIfInBounds_toArray, List.set_cons_zero, List.set_cons_succ, i64_w, i32_w]
     rfl
    refine pure_ (i := 3) (N := some 24) (v := ?_) (a' := ?_) #[true, true, true, true, false, false, false, false, false, false] rfl rfl (any_of HT_.out (by kernel_rfl)) (fun _ _ _ h => h) (Or.inl ⟨by rfl, ?_⟩) ?_ ?_
    rotate_left
    ·
     intro w'
     go_simp
     with_reducible rfl
    rotate_left
    ·
     simp only [Act.put, List.setIfInBounds_toArray, List.set_cons_zero, List.set_cons_succ, i64_w, i32_w]
     rfl
    refine pure_ (i := 4) (N := some 25) (v := ?_) (a' := ?_) #[true, true, true, true, true, false, false, false, false, false] rfl rfl (any_of HT_.out (by kernel_rfl)) (fun _ _ _ h => h) (Or.inl ⟨by rfl, ?_⟩) ?_ ?_
    rotate_left
    ·
     intro w'
     go_simp
     with_reducible rfl
    rotate_left
    ·
     simp only [Act.put, List.setIfInBounds_toArray, List.set_cons_zero, List.set_cons_succ, i64_w, i32_w]
     rfl
    refine pure_ (i := 5) (N := some 26) (v := ?_) (a' := ?_) #[true, true, true, true, true, true, false, false, false, false] rfl rfl (any_of HT_.out (by kernel_rfl)) (fun _ _ _ h => h) (Or.inl ⟨by rfl, ?_⟩) ?_ ?_
    rotate_left
    ·
     intro w'
     go_simp
     with_reducible rfl
    rotate_left
    ·
     simp only [Act.put, List.setIfInBounds_toArray, List.set_cons_zero, List.set_cons_succ, i64_w, i32_w]
     rfl
    refine take_ (i := 6) (N := some 27) (v := ?_) (a' := ?_) #[true, true, true, true, true, true, true, false, false, false] rfl rfl (take_ofW HT_.out HW_.out (by kernel_rfl)) (fun _ _ _ h => h) (Or.inl ⟨by rfl, ?_⟩) hHeld ?_ ?_
    rotate_left
    ·
     rintro w' hw
     have hq := (hw.cell (World.block_lt_of_cell? w1 _ hx2)).trans hx2
     go_simp
     with_reducible rfl
    rotate_left
    ·
     simp only [Act.put, List.setIfInBounds_toArray, List.set_cons_zero, List.set_cons_succ, i64_w, i32_w]
     rfl
    refine one_ (i := 7) (N := some 28) #[true, true, true, true, true, true, true, true, false, false] rfl rfl (one_of HT_.out (by kernel_rfl)) (by decide) (fun K hK => ?_)
    refine goes_ Tryz.func58 (by kernel_rfl) rfl #[.slice B ts.length cb, .slice A2 x.f2.length c2] (by rfl) rfl rfl (by (try simp only [List.map_toArray, List.map_cons, List.map_nil]); first | done | rfl) ?_
    refine (belfryref04_Without.calls k B cb ts A2 c2 x.f2 ys _ (Kd.C_below HA3.out hHeld) hac (Kd.C_below HG3.out hHeld) l2 HW.out).mono ?_
    rintro e w2 ⟨v, rfl, hR2, hd2⟩
    obtain ⟨AV, cV, rfl⟩ := Kd.R_slice hR2
    have HR2 := Aside0.mk (Kd.R_lower hR2 (Nat.le_trans hB1.out.2.2.size hHeld.size))
    clear hR2
    refine ⟨_, rfl, ?_⟩
    refine hK.out _ _ (below_step hHeld hd2) (fun hHeld => ?_)
    clear hK K hd2
    refine norm_ (a' := ?_) ?_ ?_
    rotate_left
    ·
     show Act.put _ (some 28) _ = _
     simp only [Act.put, List.setIfInBounds_toArray, List.set_cons_zero, List.set_cons_succ, i64_w, i32_w]
     rfl
    refine pure_ (i := 8) (N := some 29) (v := ?_) (a' := ?_) #[true, true, true, true, true, true, true, true, true, false] rfl rfl (any_of HT_.out (by kernel_rfl)) (fun _ _ _ h => h) (Or.inl ⟨by rfl, ?_⟩) ?_ ?_
    rotate_left
    ·
     intro w'
     go_simp
     with_reducible rfl
    rotate_left
    ·
     simp only [Act.put, List.setIfInBounds_toArray, List.set_cons_zero, List.set_cons_succ, i64_w, i32_w]
     rfl
    refine last_ (i := 9) (N := none) #[true, true, true, true, true, true, true, true, true, true] rfl rfl (one_of HT_.out (by kernel_rfl)) (by decide) (fun K hK => ?_)
    have HB2 := Aside0.mk (And.intro (blk_below hB1.out.1 hHeld) (And.intro (blk_below hB1.out.2.1 hHeld) (below_step hB1.out.2.2 hHeld)))
    have hs9 := (blk_cell HB2.out.1 2).trans h2
    have hf9 := blk_frozen HB2.out.1 2
    refine skip_ (w1 := ?_) (by rfl) rfl ?_ ?_
    rotate_left
    ·
     go_simp
     rfl
    refine hK.out _ _ ?_
    clear hK K
    refine done_ (done_of HT_.out (by kernel_rfl)) ?_
    have hpa : (cs.setIfInBounds 2 (.slice AV ys.length cV)).size = 40 := by simp [hs]
    have hpb : (cs.setIfInBounds 2 (.slice AV ys.length cV)).all (·.oneCell') = true := by
     rw [Array.all_eq_true]
     intro j hj
     rw [Array.getElem_setIfInBounds (by simpa using hj)]
     split
     ·
      rfl
     ·
      exact (Array.all_eq_true.mp H1.out) j (by simpa using hj)
    have HP := Aside0.mk (And.intro (blk_set HB2.out.1 2 (.slice AV ys.length cV)) (And.intro (blk_far HB2.out.2.1 (p := ⟨w.heap.size, 2, none⟩) (by simp) (.slice AV ys.length cV)) (And.intro (HB2.out.2.2.setCell (p := ⟨w.heap.size, 2, none⟩) (by simp) (.slice AV ys.length cV)) (And.intro (Kd.R_set HR2.out HB2.out.1 (by decide) 2 (.slice AV ys.length cV)) (And.intro hpa hpb)))))
    clear hpa hpb
    go_wp2_with (refine wpList_load_row rfl 52 (.tmp 3) rfl w.heap.size rfl 52 (cs.setIfInBounds 2 (.slice AV ys.length cV)) (0, 0) _ HP.out.1 hu52 rfl (by rw [HP.out.2.2.2.2.1]; kernel_rfl) (Aside0.out ?_))
    refine ⟨?_⟩
    refine wpList_store_rowTo rfl 52 (.tmp 4) (.tmp 30) rfl rfl (w.heap.size + 1) (cs.setIfInBounds 2 (.slice AV ys.length cV)) rfl rfl 52 z52 HP.out.2.1 (by rw [HP.out.2.2.2.2.1]; kernel_rfl) (by rw [HP.out.2.2.2.2.1]; rfl) HP.out.2.2.2.2.2 ?_
    go_wp2
    refine bodyPost_ret (results_cell_tmp rfl _ _ (w.heap.size + 1) 52 (cs.setIfInBounds 2 (.slice AV ys.length cV)) (0, 0) _ rfl (blk_setRow HP.out.2.1) hu52 rfl (by rw [HP.out.2.2.2.2.1]; kernel_rfl)) rfl ?_
    exact ⟨⟨_, rfl, R_setRow HP.out.2.2.2.1 HP.out.2.1 (by decide) _⟩, below_setRow HP.out.2.2.1 (by omega) _⟩
  ·
   obtain rfl : i = vs.length := by omega
   have b2 : decide (((vs.length : Nat) : Int) < (vs.length : Int)) = false := decide_eq_false (by omega)
   have b3 : decide (vs.length < vs.length) = false := decide_eq_false hlt
   have hr := HH.out
   rw [List.drop_length] at hr
   obtain rfl := Option.some.inj hr
   go_wp2_with (refine Go.wpList_buildTo rfl 52 #[] rfl (some 31) rfl z52 (by kernel_rfl) (Aside0.out ?_))
   refine ⟨?_⟩
   refine wpList_store_rowTo rfl 52 (.tmp 4) (.tmp 31) rfl rfl (w.heap.size + 1) z52 rfl rfl 52 z52 HB.out.2.1 (by kernel_rfl) rfl (by kernel_rfl) ?_
   go_wp2
   refine bodyPost_ret (results_cell_tmp rfl _ _ (w.heap.size + 1) 52 z52 (0, 0) _ rfl (blk_setRow HB.out.2.1) hu52 rfl (by kernel_rfl)) rfl ?_
   exact ⟨rfl, below_setRow HB.out.2.2 (by omega) _⟩
end Go.Proofs.YtkedidjjhhjdbaaGreatDoor.Pr
end
section
set_option linter.unusedVariables false
set_option linter.unusedSimpArgs false
namespace Go.Proofs.YtkedidjjhhjdbaaGreatDoor.Pr
open Go.RowKit Go.Proofs.YtkedidjjhhjdbaaGreatDoorW.PrintWords Go.Proofs.YtkedidjjhhjdbaaGreatDoorW.PrintLast Go.Proofs.YtkedidjjhhjdbaaGreatDoorW.PrintMore
def seesR (ts : List S62) : List S31 → Option (List S62)
  | [] => none
  | x :: xs => if fitsL ts x.f1 = true then some (woK x.f2 ts) else seesR ts xs
def smallV (vs : List S31) : Prop := ∀ x ∈ vs, smallM x.f1 ∧ x.f2.length < 4611686018427387904
theorem sees_ev (ts : List S62) (hl : ts.length < 4398046511104) (hs : smallA ts) : ∀ vs : List S31, smallV vs → Ev (fun k => policy_Sees.go k ts vs) (seesR ts vs)
 | [], _ => Ev.const rfl
 | x :: xs, h => by
  have hx := h x (List.mem_cons_self ..)
  have ih := sees_ev ts hl hs xs (fun y hy => h y (List.mem_cons_of_mem _ hy))
  refine Ev.of_eq (g := fun k => (attr_Fits.f k ts x.f1).bind fun b => if b = true then (attr_Without.f k ts x.f2).map some else policy_Sees.go k ts xs) ?_ (fun k => rfl)
  refine Ev.bind (fits_ev ts hl hs x.f1 hx.1) ?_
  rw [seesR]
  cases fitsL ts x.f1 with
  | true =>
   obtain ⟨K, hK⟩ := wok_ev x.f2 hx.2 ts hl
   exact ⟨K, fun k hk => congrArg (Option.map some) (hK k hk)⟩
  | false => exact ih
theorem ref_sees_ev (ts : List S62) (hl : ts.length < 4398046511104) (hs : smallA ts) : ∀ vs : List S31, smallV vs → Ev (fun k => belfryref11_Sees.go k ts vs) (seesR ts vs)
 | [], _ => Ev.const rfl
 | x :: xs, h => by
  have hx := h x (List.mem_cons_self ..)
  have ih := ref_sees_ev ts hl hs xs (fun y hy => h y (List.mem_cons_of_mem _ hy))
  refine Ev.of_eq (g := fun k => (belfryref04_Fits.f k ts x.f1).bind fun b => if b = true then (belfryref04_Without.f k ts x.f2).map some else belfryref11_Sees.go k ts xs) ?_ (fun k => rfl)
  refine Ev.bind (ref_fitsA_ev ts hl hs x.f1 hx.1) ?_
  rw [seesR]
  cases fitsL ts x.f1 with
  | true =>
   obtain ⟨K, hK⟩ := rwok_ev x.f2 hx.2 ts hl
   exact ⟨K, fun k hk => congrArg (Option.map some) (hK k hk)⟩
  | false => exact ih
theorem seesR_len (ts : List S62) : ∀ (vs : List S31) (ys : List S62), seesR ts vs = some ys → ys.length ≤ ts.length
 | [], ys, h => by cases h
 | x :: xs, ys, h => by
  rw [seesR] at h
  split at h
  ·
   obtain rfl := Option.some.inj h
   exact woK_len _ _
  ·
   exact seesR_len ts xs ys h
theorem sameA_refl (m : List S62) (hm : m.length < 4611686018427387904) : Ev (fun k => belfryref04_Same.f k m m) true := by
 unfold belfryref04_Same.f
 simp only [if_true]
 have : ∀ (n i : Nat), i + n = m.length → Ev (fun k => belfryref04_Same.l0 k m m (i : Int)) true := by
  intro n
  induction n with
  | zero => intro i hin; exact Ev.succ (g := fun _ => some true) (Ev.const rfl) (fun k => by rw [belfryref04_Same.l0, if_neg (by omega)])
  | succ n ih =>
   intro i hin
   exact Ev.succ (ih (i + 1) (by omega)) (fun k => by
    rw [belfryref04_Same.l0, if_pos (by omega), if_pos (by omega), if_pos (by omega), if_neg (by simp), wrap_small (n := (i : Int) + 1) (by omega) (by omega), show (i : Int) + 1 = ((i + 1 : Nat) : Int) by omega])
 exact this m.length 0 (by omega)
end Go.Proofs.YtkedidjjhhjdbaaGreatDoor.Pr
end
section
set_option linter.unusedVariables false
set_option linter.unusedSimpArgs false
namespace Go.Proofs.YtkedidjjhhjdbaaGreatDoor.Pr
open Go.RowKit
theorem eqItems_ints {P : Program} {e : TypeId} {k k' : IntKind} (he : P.underlying e = some (.int k')) (hpk : P.plainKey e = true) (d : Nat) (xs ys : List Int) (w : World) :
  ∀ is : List Nat, (∀ i ∈ is, i < xs.length ∧ i < ys.length) → (Op.eqItems (d + 1) e 1 (xs.map (Value.int k)).toArray (ys.map (Value.int k)).toArray is).run P w = .ok (is.all fun i => xs.getD i 0 == ys.getD i 0) w
 | [], _ => by simp [Op.eqItems]
 | i :: is, h => by
  have ih := eqItems_ints (k := k) he hpk d xs ys w is (fun j hj => h j (List.mem_cons_of_mem _ hj))
  obtain ⟨hx, hy⟩ := h i (List.mem_cons_self ..)
  have p1 : (part e (xs.map (Value.int k)).toArray (i * 1)).run P w = .ok (.int k (xs.getD i 0)) w := Go.run_part_plain (P := P) w hpk (by simp [Nat.mul_one, List.getElem?_eq_getElem hx])
  have p2 : (part e (ys.map (Value.int k)).toArray (i * 1)).run P w = .ok (.int k (ys.getD i 0)) w := Go.run_part_plain (P := P) w hpk (by simp [Nat.mul_one, List.getElem?_eq_getElem hy])
  have p3 := run_equalIn_int (P := P) (w := w) d e k k' (xs.getD i 0) (ys.getD i 0) he
  simp only [Op.eqItems, Sem.run_bind, p1, p2, p3, Result.andThen_ok, ih, List.all_cons]
  cases hq : (xs.getD i 0 == ys.getD i 0) <;> simp [ih]
theorem all_range_eq (xs ys : List Int) (h : xs.length = ys.length) : ((List.range xs.length).all fun i => xs.getD i 0 == ys.getD i 0) = (xs == ys) := by
 rw [Bool.eq_iff_iff, List.all_eq_true]
 constructor
 ·
  intro hh
  rw [beq_iff_eq]
  refine List.ext_getElem h fun i h1 h2 => ?_
  have := hh i (List.mem_range.2 h1)
  simpa [List.getD_eq_getElem?_getD, List.getElem?_eq_getElem h1, List.getElem?_eq_getElem h2] using this
 ·
  intro hh i hi
  rw [beq_iff_eq] at hh
  subst hh
  simp
theorem eqArr {P : Program} {t e : TypeId} {n : Nat} {k k' : IntKind} (hu : P.underlying t = some (.array n e)) (hi : (P.info? e).isSome = true) (hc : P.cellsOf e = 1) (he : P.underlying e = some (.int k')) (hpk : P.plainKey e = true) (d : Nat) (xs ys : List Int) (hx : xs.length = n) (hy : ys.length = n) (w : World) :
  (Op.equalIn (d + 2) t (.agg (xs.map (Value.int k)).toArray) (.agg (ys.map (Value.int k)).toArray)).run P w = .ok (xs == ys) w := by
 obtain ⟨inf, hi⟩ := Option.isSome_iff_exists.mp hi
 rw [run_equalIn_array (P := P) (w := w) (d + 1) _ _ hu hi, hc, eqItems_ints he hpk d xs ys w _ (fun i h => by have := List.mem_range.1 h; omega)]
 subst hx
 rw [all_range_eq xs ys hy.symm]
end Go.Proofs.YtkedidjjhhjdbaaGreatDoor.Pr
end
section
set_option linter.unusedVariables false
set_option linter.unusedSimpArgs false
namespace Go.Proofs.YtkedidjjhhjdbaaGreatDoor.Pr
open Go.RowKit Go.Proofs.YtkedidjjhhjdbaaGreatDoorW.PrintWords Go.Proofs.YtkedidjjhhjdbaaGreatDoorW.PrintLast Go.Proofs.YtkedidjjhhjdbaaGreatDoorW.PrintMore
structure Rc where
  kd : Int
  nm : ByteArray
  tm : Int
  tw : Int
  vv : Int
  lv : Int
  tx : ByteArray
  tr : List Int
  sid : List Int
  pa : List Int
structure Rc.ok (x : Rc) : Prop where
  tr : x.tr.length = 16
  sid : x.sid.length = 8
  pa : x.pa.length = 8
def Rc.cells (x : Rc) (v : Value) : Array Value := (([.int .i64 x.kd, .string x.nm, v, .int .i64 x.tm, .int .i64 x.tw, .int .i64 x.vv, .int .i64 x.lv, .string x.tx] : List Value) ++ (x.tr.map (Value.int .u8) ++ (x.sid.map (Value.int .u8) ++ x.pa.map (Value.int .u8)))).toArray
theorem Rc.size {x : Rc} (h : x.ok) (v : Value) : (x.cells v).size = 40 := by
 simp [Rc.cells, h.tr, h.sid, h.pa]
theorem Rc.at2 (x : Rc) (v : Value) : (x.cells v)[2]? = some v := rfl
theorem Rc.set2 (x : Rc) (v u : Value) : (x.cells v).setIfInBounds 2 u = x.cells u := by
 simp [Rc.cells, List.set]
theorem Rc.ones (x : Rc) {v : Value} (hv : v.oneCell' = true) : (x.cells v).all (·.oneCell') = true := by
 have hm : ∀ l : List Int, (l.map (Value.int .u8)).all (·.oneCell') = true := fun l => by
  rw [List.all_map, List.all_eq_true]
  intro _ _
  rfl
 unfold Rc.cells
 rw [List.all_toArray, List.all_append, List.all_append, List.all_append, hm, hm, hm]
 simp only [List.all_cons, List.all_nil, hv, show ∀ k i, (Value.int k i).oneCell' = true from fun _ _ => rfl, show ∀ s, (Value.string s).oneCell' = true from fun _ => rfl, Bool.and_true]
theorem list16 : ∀ l : List Int, l.length = 16 → ∃ a0 a1 a2 a3 a4 a5 a6 a7 a8 a9 a10 a11 a12 a13 a14 a15, l = [a0, a1, a2, a3, a4, a5, a6, a7, a8, a9, a10, a11, a12, a13, a14, a15]
 | [a0, a1, a2, a3, a4, a5, a6, a7, a8, a9, a10, a11, a12, a13, a14, a15], _ => ⟨_, _, _, _, _, _, _, _, _, _, _, _, _, _, _, _, rfl⟩
theorem list8 : ∀ l : List Int, l.length = 8 → ∃ a0 a1 a2 a3 a4 a5 a6 a7, l = [a0, a1, a2, a3, a4, a5, a6, a7]
 | [a0, a1, a2, a3, a4, a5, a6, a7], _ => ⟨_, _, _, _, _, _, _, _, rfl⟩
theorem eqA49 (x0 y0 x1 y1 x2 y2 x3 y3 x4 y4 x5 y5 x6 y6 x7 y7 x8 y8 x9 y9 x10 y10 x11 y11 x12 y12 x13 y13 x14 y14 x15 y15 : Int) (W : World) : (Op.equalIn 10000 49 (.agg #[.int .u8 x0, .int .u8 x1, .int .u8 x2, .int .u8 x3, .int .u8 x4, .int .u8 x5, .int .u8 x6, .int .u8 x7, .int .u8 x8, .int .u8 x9, .int .u8 x10, .int .u8 x11, .int .u8 x12, .int .u8 x13, .int .u8 x14, .int .u8 x15]) (.agg #[.int .u8 y0, .int .u8 y1, .int .u8 y2, .int .u8 y3, .int .u8 y4, .int .u8 y5, .int .u8 y6, .int .u8 y7, .int .u8 y8, .int .u8 y9, .int .u8 y10, .int .u8 y11, .int .u8 y12, .int .u8 y13, .int .u8 y14, .int .u8 y15])).run Tryz.prog W = .ok ([x0, x1, x2, x3, x4, x5, x6, x7, x8, x9, x10, x11, x12, x13, x14, x15] == [y0, y1, y2, y3, y4, y5, y6, y7, y8, y9, y10, y11, y12, y13, y14, y15]) W := eqArr (k := .u8) Tryz.underlying49 (P := Tryz.prog) (by kernel_rfl) (by kernel_rfl) Tryz.underlying5 (by kernel_rfl) 9998 [x0, x1, x2, x3, x4, x5, x6, x7, x8, x9, x10, x11, x12, x13, x14, x15] [y0, y1, y2, y3, y4, y5, y6, y7, y8, y9, y10, y11, y12, y13, y14, y15] rfl rfl W
theorem eqA50 (x0 y0 x1 y1 x2 y2 x3 y3 x4 y4 x5 y5 x6 y6 x7 y7 : Int) (W : World) : (Op.equalIn 10000 50 (.agg #[.int .u8 x0, .int .u8 x1, .int .u8 x2, .int .u8 x3, .int .u8 x4, .int .u8 x5, .int .u8 x6, .int .u8 x7]) (.agg #[.int .u8 y0, .int .u8 y1, .int .u8 y2, .int .u8 y3, .int .u8 y4, .int .u8 y5, .int .u8 y6, .int .u8 y7])).run Tryz.prog W = .ok ([x0, x1, x2, x3, x4, x5, x6, x7] == [y0, y1, y2, y3, y4, y5, y6, y7]) W := eqArr (k := .u8) Tryz.underlying50 (P := Tryz.prog) (by kernel_rfl) (by kernel_rfl) Tryz.underlying5 (by kernel_rfl) 9998 [x0, x1, x2, x3, x4, x5, x6, x7] [y0, y1, y2, y3, y4, y5, y6, y7] rfl rfl W
attribute [local go_sem high] eqA49 eqA50
set_option maxHeartbeats 8000000 in
set_option maxRecDepth 100000 in
theorem one_walk (kn : Nat) (x : Rc) (hx : x.ok) (A0 A1 : Option Addr) (c0 c1 : Nat) (l : List S62) (w : World) (hr0 : Kd.C k62 w A0 l.length l) (hc0 : l.length ≤ c0) (hr1 : Kd.C k62 w A1 l.length l) (hc1 : l.length ≤ c1) (h : belfryref04_Same.f kn l l = some true) :
  Calls Tryz.prog 27 #[.agg (x.cells (.slice A0 l.length c0)), .agg (x.cells (.slice A1 l.length c1))] w fun e w' => e = .returned (.bool true) ∧ Below w.heap.size w w' := by
 have hu52 := Tryz.underlying52
 have HR0 := Aside0.mk hr0
 have HR1 := Aside0.mk hr1
 have HH := Aside0.mk h
 clear hr0 hr1 h
 obtain ⟨k, nm, tm, tw, vv, lv, tx, tr, sid, pa⟩ := x
 obtain ⟨a0, a1, a2, a3, a4, a5, a6, a7, a8, a9, a10, a11, a12, a13, a14, a15, rfl⟩ := list16 tr hx.tr
 obtain ⟨b0, b1, b2, b3, b4, b5, b6, b7, rfl⟩ := list8 sid hx.sid
 obtain ⟨d0, d1, d2, d3, d4, d5, d6, d7, rfl⟩ := list8 pa hx.pa
 clear hx
 simp only [Rc.cells, List.map_cons, List.map_nil, List.cons_append, List.nil_append]
 go_enter Tryz.func27, Tryz.ntmps27
 go_wp2_with fail
 refine (belfryref04_Same.calls kn A0 c0 l A1 c1 l true _ (Kd.C_alloc (Kd.C_alloc HR0.out _) _) hc0 (Kd.C_alloc (Kd.C_alloc HR1.out _) _) hc1 HH.out).mono ?_
 rintro e w1 ⟨rfl, ⟨nd, rfl⟩⟩
 go_wp2
 go_ret
 exact ⟨rfl, pw_below_drewN (below_alloc (below_alloc (Below.refl _ _) _) _) nd⟩
end Go.Proofs.YtkedidjjhhjdbaaGreatDoor.Pr
end
section
set_option linter.unusedVariables false
set_option linter.unusedSimpArgs false
namespace Go.Proofs.YtkedidjjhhjdbaaGreatDoor.Pr
open Go.RowKit Go.Proofs.YtkedidjjhhjdbaaGreatDoorW.PrintWords Go.Proofs.YtkedidjjhhjdbaaGreatDoorW.PrintLast Go.Proofs.YtkedidjjhhjdbaaGreatDoorW.PrintMore
def strings_Split.f (a0 a1 : ByteArray) : Option (List ByteArray) := if a0.size < 4294967281 ∧ 1 ≤ a1.size then some (Lib.splitB a1 0 (Lib.countB a0 a1) a0) else none
theorem strings_Split.calls (a0 a1 : ByteArray) (r : List ByteArray) (w : World) (h : strings_Split.f a0 a1 = some r)
  (he_ : EnvW w := by repeat (first | with_reducible assumption | with_reducible exact env_of (by with_reducible assumption) (by with_reducible assumption) | with_reducible exact env_out (by with_reducible assumption) | with_reducible apply env_alloc | with_reducible apply env_drewN | with_reducible apply env_drew | with_reducible refine env_set ?_ (by with_reducible assumption) (by with_reducible assumption))) :
  Calls Tryz.prog 41 #[.string a0, .string a1] w fun e w' => ∃ v0_ : Value, e = .returned (v0_) ∧ Kd.R Kd.string 9 w' w.heap.size (fun _ => True) v0_ r ∧ Below w.heap.size w w' := by
 unfold strings_Split.f at h
 by_cases hs : a0.size < 4294967281 ∧ 1 ≤ a1.size
 ·
  rw [if_pos hs] at h
  obtain rfl := Option.some.inj h
  obtain ⟨_, m, hm⟩ := he_
  refine (Tryz.strings_Split a0 a1 m w hs.1 hm hs.2).mono ?_
  rintro e w' ⟨rfl, rfl⟩
  have hl := Lib.splitB_all a1 hs.2 0 (Lib.countB a0 a1) a0 rfl
  have hk : Lib.countB a0 a1 + 1 ≤ 9223372036854775807 := by
   have := Lib.countB_le a1 hs.2 a0.size a0 (Nat.le_refl _)
   omega
  refine ⟨_, rfl, flatStr.R' (fun _ _ => trivial) ?_, (Below.refl _ _).alloc (Nat.le_refl _) _⟩
  rw [hl, strs_flat]
  refine ⟨by simp [hl, Kd.string, Kd.scalar], .inr ⟨w.heap.size, Lib.countB a0 a1 + 1, _, rfl, Nat.le_refl _, blk_new _ _, Nat.le_refl _, by unfold maxLen; exact hk, by simp [hl, Kd.string, Kd.scalar], ?_⟩⟩
  rw [List.take_of_length_le (by simp [hl, Kd.string, Kd.scalar])]
 ·
  rw [if_neg hs] at h
  cases h
end Go.Proofs.YtkedidjjhhjdbaaGreatDoor.Pr
end
section
set_option linter.unusedVariables false
set_option linter.unusedSimpArgs false
namespace Go.Proofs.YtkedidjjhhjdbaaGreatDoor.Pr
open Go.RowKit Go.Proofs.YtkedidjjhhjdbaaGreatDoorW.PrintWords Go.Proofs.YtkedidjjhhjdbaaGreatDoorW.PrintLast Go.Proofs.YtkedidjjhhjdbaaGreatDoorW.PrintMore
def nextW (s : ByteArray) : ByteArray := ⟨(Lib.cut s.data.toList [32]).1.toArray⟩
def restW (s : ByteArray) : ByteArray := ⟨(Lib.cut s.data.toList [32]).2.1.toArray⟩
abbrev TxBox (g : Nat) (s : ByteArray) (W : World) : Prop := W.heap[g]? = some (.cells #[.string s] 9 (0, 0))
theorem TxBox.set {g : Nat} {s : ByteArray} {W : World} (h : TxBox g s W) (t : ByteArray) : TxBox g t (W.setCell ⟨g, 0, none⟩ (.string t)) := blk_set h 0 _
set_option maxRecDepth 100000 in
theorem next_walk (g : Nat) (s : ByteArray) (w : World) (hb : TxBox g s w) (hs : s.size < 4294967281) (he : EnvW w) :
  Calls Tryz.prog 74 #[.pointer (some ⟨g, 0, none⟩)] w fun e w' => e = .returned (.string (nextW s)) ∧ ∃ n, w' = (w.drewN n).setCell ⟨g, 0, none⟩ (.string (restW s)) := by
 have hx := blk_cell hb 0
 have hf := blk_frozen hb 0
 obtain ⟨_, m, hm⟩ := he
 go_enter Tryz.func74, Tryz.ntmps74
 go_wp2_with fail
 refine (Tryz.strings_Cut s ⟨#[32]⟩ m w hs hm).mono ?_
 rintro e w1 ⟨rfl, n, rfl⟩
 go_wp2
 go_ret
 exact ⟨rfl, n, rfl⟩
end Go.Proofs.YtkedidjjhhjdbaaGreatDoor.Pr
end
