import Derived.Test.YtkedidjjhhjdbaaGreatDoorM5
import Derived.Test.YtkedidjjhhjdbaaGreatDoorM9
import Derived.Test.YtkedidjjhhjdbaaGreatDoorM3
import Derived.Test.YtkedidjjhhjdbaaGreatDoorM8
import Derived.Laws.Rows
import Derived.Laws.Tables
import Derived.Great.BuildSlice
section
namespace Go.Proofs.YtkedidjjhhjdbaaGreatDoor.Pr
open Go.RowKit Go.Proofs.YtkedidjjhhjdbaaGreatDoorW.PrintWords Go.Proofs.YtkedidjjhhjdbaaGreatDoorW.PrintLast Go.Proofs.YtkedidjjhhjdbaaGreatDoorW.PrintMore
attribute [local go_sem] max2_int min2_int max_two min_two max_three min_three max_four min_four strGtr strLeq strGeq
set_option linter.unusedVariables false
set_option linter.unusedSimpArgs false
def attr_Fits.l0 : Nat → List (S62) → List (S33) → Int → Int → Option (Bool)
  | 0, _, _, _, _ => none
  | k + 1, x0, x10, x11, x12 => if x12 < x11 then (if 0 ≤ x12 then (if x12 < (x10.length : Int) then ((attr_Get.f k x0 ((rd_T33 x10 x12).f1)).bind fun bt485 => (if ((rd_T33 x10 x12).f0) = 1 then (if (bt485.1.toList = ((rd_T33 x10 x12).f2).toList) then (attr_Fits.l0 k x0 x10 x11 (wrap64 (x12 + 1))) else (some false)) else (if ((rd_T33 x10 x12).f0) = 2 then (if bt485.1.toList = ((rd_T33 x10 x12).f2).toList then (some false) else (attr_Fits.l0 k x0 x10 x11 (wrap64 (x12 + 1)))) else (if ((rd_T33 x10 x12).f0) = 3 then ((strings_Contains.f bt485.1 ((rd_T33 x10 x12).f2)).bind fun t487 => (if t487 = true then (attr_Fits.l0 k x0 x10 x11 (wrap64 (x12 + 1))) else (some false))) else (if ((rd_T33 x10 x12).f0) = 4 then ((strings_Contains.f bt485.1 ((rd_T33 x10 x12).f2)).bind fun t488 => (if t488 = true then (some false) else (attr_Fits.l0 k x0 x10 x11 (wrap64 (x12 + 1))))) else (some false)))))) else (none)) else (none)) else (some true)
def attr_Fits.f (k : Nat) (l0 : List (S62)) (l1 : List (S33)) : Option (Bool) := attr_Fits.l0 k l0 l1 (l1.length : Int) 0
set_option maxHeartbeats 8000000 in
set_option maxRecDepth 100000 in
theorem attr_Fits.calls (k : Nat) (A0 : Option Addr) (c0 : Nat) (l0 : List (S62)) (A1 : Option Addr) (c1 : Nat) (l1 : List (S33)) (r : Bool) (w : World) (hr0 : Kd.C k62 w A0 l0.length l0) (hc0 : l0.length ≤ c0) (hr1 : Kd.C k33 w A1 l1.length l1) (hc1 : l1.length ≤ c1) (h : attr_Fits.f k l0 l1 = some r) (he_ : EnvW w := by repeat (first | with_reducible assumption | with_reducible exact env_of (by with_reducible assumption) (by with_reducible assumption) | with_reducible exact env_out (by with_reducible assumption) | with_reducible apply env_alloc | with_reducible apply env_drewN | with_reducible apply env_drew | with_reducible refine env_set ?_ (by with_reducible assumption) (by with_reducible assumption))) :
  Calls Tryz.prog 56 #[.slice A0 l0.length c0, .slice A1 l1.length c1] w fun e w' => e = .returned (.bool r) ∧ Below w.heap.size w w' := by
 have HE_ := Aside0.mk he_
 clear he_
 have hu33 := Tryz.underlying33
 have HR0 := Aside0.mk hr0
 have HC0 := Aside0.mk hc0
 clear hr0 hc0
 have HR1 := Aside0.mk hr1
 have HC1 := Aside0.mk hc1
 clear hr1 hc1
 have HB := Aside0.mk (Below.refl w.heap.size w)
 have H : (attr_Fits.l0 k l0 l1 (l1.length : Int) 0) = some r := h
 clear h
 have H' := Aside0.mk H
 clear H
 go_enter Tryz.func56, Tryz.ntmps56
 go_wp2
 go_loopg [12] k (fun kq v12 w' => ∃ (x12_1 : Int), v12 = .int .i64 x12_1 ∧ Aside0 (attr_Fits.l0 kq l0 l1 (l1.length : Int) x12_1 = some r) ∧ Aside0 (kq ≤ k) ∧ Aside0 (Below w.heap.size w w'))
 case atStart => exact ⟨(0), (by first | rfl | (simp; done) | (simp [*]; done)), H', ⟨Nat.le_refl _⟩, ⟨by repeat (first | (with_reducible first | exact HB.out | apply below_alloc | apply pw_below_drewN | apply below_drew1) | exact HB.out)⟩⟩
 case round =>
  clear H'
  try clear c1
  try clear p2
  obtain ⟨x12_1, rfl, HA, HK1, HB⟩ := hrel
  cases gk with
  | zero => exact absurd HA.out (by simp [attr_Fits.l0])
  | succ k1 =>
   have H := HA.out
   clear HA
   simp only [attr_Fits.l0] at H
   by_cases c3 : x12_1 < (l1.length : Int)
   ·
    rw [if_pos c3] at H
    have c3b0 : decide (x12_1 < (l1.length : Int)) = true := decide_eq_true c3
    clear c3
    by_cases c4 : 0 ≤ x12_1
    ·
     rw [if_pos c4] at H
     have c4b0 : decide (0 ≤ x12_1) = true := decide_eq_true c4
     clear c4
     by_cases c5 : x12_1 < (l1.length : Int)
     ·
      rw [if_pos c5] at H
      have c5b0 : decide (x12_1 < (l1.length : Int)) = true := decide_eq_true c5
      clear c5
      replace H := Option.bind_eq_some_iff.mp H
      obtain ⟨⟨t485, t486⟩, A60, H⟩ := H
      replace H : (if ((rd_T33 l1 x12_1).f0) = 1 then (if (t485.toList = ((rd_T33 l1 x12_1).f2).toList) then (attr_Fits.l0 k1 l0 l1 (l1.length : Int) (wrap64 (x12_1 + 1))) else (some false)) else (if ((rd_T33 l1 x12_1).f0) = 2 then (if t485.toList = ((rd_T33 l1 x12_1).f2).toList then (some false) else (attr_Fits.l0 k1 l0 l1 (l1.length : Int) (wrap64 (x12_1 + 1)))) else (if ((rd_T33 l1 x12_1).f0) = 3 then ((strings_Contains.f t485 ((rd_T33 l1 x12_1).f2)).bind fun t487 => (if t487 = true then (attr_Fits.l0 k1 l0 l1 (l1.length : Int) (wrap64 (x12_1 + 1))) else (some false))) else (if ((rd_T33 l1 x12_1).f0) = 4 then ((strings_Contains.f t485 ((rd_T33 l1 x12_1).f2)).bind fun t488 => (if t488 = true then (some false) else (attr_Fits.l0 k1 l0 l1 (l1.length : Int) (wrap64 (x12_1 + 1))))) else (some false))))) = some r := H
      have A6 := Aside0.mk A60
      clear A60
      by_cases c7 : ((rd_T33 l1 x12_1).f0) = 1
      ·
       rw [if_pos c7] at H
       have c7b0 : (((rd_T33 l1 x12_1).f0) == 1) = true := beq_iff_eq.mpr c7
       have c7b1 : (((rd_T33 l1 x12_1).f0) != 1) = false := bne_eq_false_iff_eq.mpr c7
       clear c7
       by_cases c8 : (t485.toList = ((rd_T33 l1 x12_1).f2).toList)
       ·
        rw [if_pos c8] at H
        have c8b0 : (t485.toList == ((rd_T33 l1 x12_1).f2).toList) = true := beq_iff_eq.mpr c8
        have c8b1 : (t485.toList != ((rd_T33 l1 x12_1).f2).toList) = false := bne_eq_false_iff_eq.mpr c8
        clear c8
        have H' := Aside0.mk H
        clear H
        have p483 : 0 ≤ (x12_1 : Int) := of_decide_eq_true (by first | (with_reducible assumption) | assumption)
        have q483 : x12_1 < (l1.length : Int) := of_decide_eq_true (by first | (with_reducible assumption) | assumption)
        obtain ⟨ad483, e483, hx483_0, hx483_1, hx483_2⟩ := at_T33 HR1.out x12_1 p483 q483
        cases e483
        replace hx483_0 := (HB.out.cell (World.block_lt_of_cell? w _ hx483_0)).trans hx483_0
        replace hx483_1 := (HB.out.cell (World.block_lt_of_cell? w _ hx483_1)).trans hx483_1
        replace hx483_2 := (HB.out.cell (World.block_lt_of_cell? w _ hx483_2)).trans hx483_2
        replace p483 := eq_true p483
        replace q483 := eq_true q483
        go_wp2_with (first | ((with_reducible refine gate_dst (N := 6) rfl ?_); refine box_event ?hg (N := 6) ?hd (cs := #[.int .i64 0, .string (⟨#[]⟩ : ByteArray), .string (⟨#[]⟩ : ByteArray)]) (t := 33) ?hr ?_; (case hd => rfl); (case hg => rfl); (case hr => first | (go_simp; done) | (go_simp; rfl)); intro gb484 hg w9 hbox hb; have n0_ := Aside0.mk (below_step (by repeat (first | (with_reducible first | exact HB.out | apply below_alloc | apply pw_below_drewN | apply below_drew1) | exact HB.out)) hb); have n1_ := Aside0.mk (hbox); have n2_ := Aside0.mk ((by rw [hg]; exact (below_size (by repeat (first | (with_reducible first | exact HB.out | apply below_alloc | apply pw_below_drewN | apply below_drew1) | exact HB.out))) : w.heap.size ≤ gb484)); have n3_ := Aside0.mk ((by rw [hg]; exact (below_size (by repeat (first | (with_reducible first | exact HB.out | apply below_alloc | apply pw_below_drewN | apply below_drew1) | exact HB.out))) : w.heap.size ≤ gb484)); clear HB; have HB := n0_; have BK484 := n1_; have GW484 := n2_; have GE484 := n3_; clear n0_ n1_ n2_ n3_; clear hb hbox hg; have hcz10_0 : w9.cell? ⟨gb484, 0, none⟩ = some (.int .i64 0) := (blk_cell BK484.out 0).trans rfl; have hcz10_1 : w9.cell? ⟨gb484, 1, none⟩ = some (.string (⟨#[]⟩ : ByteArray)) := (blk_cell BK484.out 1).trans rfl; have hcz10_2 : w9.cell? ⟨gb484, 2, none⟩ = some (.string (⟨#[]⟩ : ByteArray)) := (blk_cell BK484.out 2).trans rfl; have hfz10_0 := blk_frozen BK484.out 0; have hfz10_1 := blk_frozen BK484.out 1; have hfz10_2 := blk_frozen BK484.out 2) | ((with_reducible refine gate_callee (f := 87) rfl ?_); refine goesL_ (some 20) rfl rfl Tryz.func87 (by kernel_rfl) rfl #[.slice A0 l0.length c0, .string ((rd_T33 l1 x12_1).f1)] rfl (by (try simp only [List.map_toArray, List.map_cons, List.map_nil]); first | done | rfl | (simp only [List.length_drop, List.length_take]; rfl)) ?_; (with_reducible refine (attr_Get.calls k1 _ _ l0 ((rd_T33 l1 x12_1).f1) t485 t486 _ ?side1 ?side2 A6.out).mono ?_); (case side1 => exact Kd.C_below HR0.out (by repeat (first | (with_reducible first | exact HB.out | apply below_alloc | apply pw_below_drewN | apply below_drew1 | refine below_set ?_ GE484.out) | exact HB.out))); (case side2 => exact HC0.out); rintro e w11 ⟨rfl, hb⟩; refine ⟨_, rfl, ?_⟩; have n0_ := Aside0.mk (blk_below (g := gb484) (o := .cells #[.int .i64 ((rd_T33 l1 x12_1).f0), .string ((rd_T33 l1 x12_1).f1), .string ((rd_T33 l1 x12_1).f2)] 33 (0, 0)) (by (with_reducible repeat (first | refine blk_drewN ?_ _ | refine blk_drew ?_ | refine blk_alloc ?_ _)); refine blk_put (cs := #[.int .i64 ((rd_T33 l1 x12_1).f0), .string ((rd_T33 l1 x12_1).f1), .string (⟨#[]⟩ : ByteArray)]) ?_ 2 _ rfl; (with_reducible repeat (first | refine blk_drewN ?_ _ | refine blk_drew ?_ | refine blk_alloc ?_ _)); refine blk_put (cs := #[.int .i64 ((rd_T33 l1 x12_1).f0), .string (⟨#[]⟩ : ByteArray), .string (⟨#[]⟩ : ByteArray)]) ?_ 1 _ rfl; (with_reducible repeat (first | refine blk_drewN ?_ _ | refine blk_drew ?_ | refine blk_alloc ?_ _)); refine blk_put (cs := #[.int .i64 0, .string (⟨#[]⟩ : ByteArray), .string (⟨#[]⟩ : ByteArray)]) ?_ 0 _ rfl; (with_reducible repeat (first | refine blk_drewN ?_ _ | refine blk_drew ?_ | refine blk_alloc ?_ _)); exact BK484.out) hb); have n1_ := Aside0.mk (below_step (by repeat (first | (with_reducible first | exact HB.out | apply below_alloc | apply pw_below_drewN | apply below_drew1 | refine below_set ?_ GE484.out) | exact HB.out)) hb); clear BK484; clear HB; have BK484 := n0_; have HB := n1_; clear n0_ n1_; (try clear hb); (try clear hb2); (try clear hk); (try clear hi); have hcz12_0 : w11.cell? ⟨gb484, 0, none⟩ = some (.int .i64 ((rd_T33 l1 x12_1).f0)) := (blk_cell BK484.out 0).trans rfl; have hcz12_1 : w11.cell? ⟨gb484, 1, none⟩ = some (.string ((rd_T33 l1 x12_1).f1)) := (blk_cell BK484.out 1).trans rfl; have hcz12_2 : w11.cell? ⟨gb484, 2, none⟩ = some (.string ((rd_T33 l1 x12_1).f2)) := (blk_cell BK484.out 2).trans rfl; have hfz12_0 := blk_frozen BK484.out 0; have hfz12_1 := blk_frozen BK484.out 1; have hfz12_2 := blk_frozen BK484.out 2))
        go_roundg k1
        case measure => have := HK1.out; omega
        case rel => exact ⟨(wrap64 (x12_1 + 1)), (by first | rfl | (simp; done) | (simp [*]; done)), H', ⟨by have := HK1.out; omega⟩, ⟨by repeat (first | (with_reducible first | exact HB.out | apply below_alloc | apply pw_below_drewN | apply below_drew1 | refine below_set ?_ GE484.out) | exact HB.out)⟩⟩
       ·
        rw [if_neg c8] at H
        have c8b0 : (t485.toList == ((rd_T33 l1 x12_1).f2).toList) = false := beq_eq_false_iff_ne.mpr c8
        have c8b1 : (t485.toList != ((rd_T33 l1 x12_1).f2).toList) = true := bne_iff_ne.mpr c8
        obtain rfl := Option.some.inj H
        have p483 : 0 ≤ (x12_1 : Int) := of_decide_eq_true (by first | (with_reducible assumption) | assumption)
        have q483 : x12_1 < (l1.length : Int) := of_decide_eq_true (by first | (with_reducible assumption) | assumption)
        obtain ⟨ad483, e483, hx483_0, hx483_1, hx483_2⟩ := at_T33 HR1.out x12_1 p483 q483
        cases e483
        replace hx483_0 := (HB.out.cell (World.block_lt_of_cell? w _ hx483_0)).trans hx483_0
        replace hx483_1 := (HB.out.cell (World.block_lt_of_cell? w _ hx483_1)).trans hx483_1
        replace hx483_2 := (HB.out.cell (World.block_lt_of_cell? w _ hx483_2)).trans hx483_2
        replace p483 := eq_true p483
        replace q483 := eq_true q483
        go_wp2_with (first | ((with_reducible refine gate_dst (N := 6) rfl ?_); refine box_event ?hg (N := 6) ?hd (cs := #[.int .i64 0, .string (⟨#[]⟩ : ByteArray), .string (⟨#[]⟩ : ByteArray)]) (t := 33) ?hr ?_; (case hd => rfl); (case hg => rfl); (case hr => first | (go_simp; done) | (go_simp; rfl)); intro gb484 hg w13 hbox hb; have n0_ := Aside0.mk (below_step (by repeat (first | (with_reducible first | exact HB.out | apply below_alloc | apply pw_below_drewN | apply below_drew1) | exact HB.out)) hb); have n1_ := Aside0.mk (hbox); have n2_ := Aside0.mk ((by rw [hg]; exact (below_size (by repeat (first | (with_reducible first | exact HB.out | apply below_alloc | apply pw_below_drewN | apply below_drew1) | exact HB.out))) : w.heap.size ≤ gb484)); have n3_ := Aside0.mk ((by rw [hg]; exact (below_size (by repeat (first | (with_reducible first | exact HB.out | apply below_alloc | apply pw_below_drewN | apply below_drew1) | exact HB.out))) : w.heap.size ≤ gb484)); clear HB; have HB := n0_; have BK484 := n1_; have GW484 := n2_; have GE484 := n3_; clear n0_ n1_ n2_ n3_; clear hb hbox hg; have hcz14_0 : w13.cell? ⟨gb484, 0, none⟩ = some (.int .i64 0) := (blk_cell BK484.out 0).trans rfl; have hcz14_1 : w13.cell? ⟨gb484, 1, none⟩ = some (.string (⟨#[]⟩ : ByteArray)) := (blk_cell BK484.out 1).trans rfl; have hcz14_2 : w13.cell? ⟨gb484, 2, none⟩ = some (.string (⟨#[]⟩ : ByteArray)) := (blk_cell BK484.out 2).trans rfl; have hfz14_0 := blk_frozen BK484.out 0; have hfz14_1 := blk_frozen BK484.out 1; have hfz14_2 := blk_frozen BK484.out 2) | ((with_reducible refine gate_callee (f := 87) rfl ?_); refine goesL_ (some 20) rfl rfl Tryz.func87 (by kernel_rfl) rfl #[.slice A0 l0.length c0, .string ((rd_T33 l1 x12_1).f1)] rfl (by (try simp only [List.map_toArray, List.map_cons, List.map_nil]); first | done | rfl | (simp only [List.length_drop, List.length_take]; rfl)) ?_; (with_reducible refine (attr_Get.calls k1 _ _ l0 ((rd_T33 l1 x12_1).f1) t485 t486 _ ?side1 ?side2 A6.out).mono ?_); (case side1 => exact Kd.C_below HR0.out (by repeat (first | (with_reducible first | exact HB.out | apply below_alloc | apply pw_below_drewN | apply below_drew1 | refine below_set ?_ GE484.out) | exact HB.out))); (case side2 => exact HC0.out); rintro e w15 ⟨rfl, hb⟩; refine ⟨_, rfl, ?_⟩; have n0_ := Aside0.mk (blk_below (g := gb484) (o := .cells #[.int .i64 ((rd_T33 l1 x12_1).f0), .string ((rd_T33 l1 x12_1).f1), .string ((rd_T33 l1 x12_1).f2)] 33 (0, 0)) (by (with_reducible repeat (first | refine blk_drewN ?_ _ | refine blk_drew ?_ | refine blk_alloc ?_ _)); refine blk_put (cs := #[.int .i64 ((rd_T33 l1 x12_1).f0), .string ((rd_T33 l1 x12_1).f1), .string (⟨#[]⟩ : ByteArray)]) ?_ 2 _ rfl; (with_reducible repeat (first | refine blk_drewN ?_ _ | refine blk_drew ?_ | refine blk_alloc ?_ _)); refine blk_put (cs := #[.int .i64 ((rd_T33 l1 x12_1).f0), .string (⟨#[]⟩ : ByteArray), .string (⟨#[]⟩ : ByteArray)]) ?_ 1 _ rfl; (with_reducible repeat (first | refine blk_drewN ?_ _ | refine blk_drew ?_ | refine blk_alloc ?_ _)); refine blk_put (cs := #[.int .i64 0, .string (⟨#[]⟩ : ByteArray), .string (⟨#[]⟩ : ByteArray)]) ?_ 0 _ rfl; (with_reducible repeat (first | refine blk_drewN ?_ _ | refine blk_drew ?_ | refine blk_alloc ?_ _)); exact BK484.out) hb); have n1_ := Aside0.mk (below_step (by repeat (first | (with_reducible first | exact HB.out | apply below_alloc | apply pw_below_drewN | apply below_drew1 | refine below_set ?_ GE484.out) | exact HB.out)) hb); clear BK484; clear HB; have BK484 := n0_; have HB := n1_; clear n0_ n1_; (try clear hb); (try clear hb2); (try clear hk); (try clear hi); have hcz16_0 : w15.cell? ⟨gb484, 0, none⟩ = some (.int .i64 ((rd_T33 l1 x12_1).f0)) := (blk_cell BK484.out 0).trans rfl; have hcz16_1 : w15.cell? ⟨gb484, 1, none⟩ = some (.string ((rd_T33 l1 x12_1).f1)) := (blk_cell BK484.out 1).trans rfl; have hcz16_2 : w15.cell? ⟨gb484, 2, none⟩ = some (.string ((rd_T33 l1 x12_1).f2)) := (blk_cell BK484.out 2).trans rfl; have hfz16_0 := blk_frozen BK484.out 0; have hfz16_1 := blk_frozen BK484.out 1; have hfz16_2 := blk_frozen BK484.out 2))
        go_ret
        exact ⟨by first | rfl | (simp [errW_none, errW_some] <;> rfl) | (simp [*, errW_none, errW_some] <;> rfl), by repeat (first | (with_reducible first | exact HB.out | apply below_alloc | apply pw_below_drewN | apply below_drew1 | refine below_set ?_ GE484.out) | exact HB.out)⟩
      ·
       rw [if_neg c7] at H
       have c7b0 : (((rd_T33 l1 x12_1).f0) == 1) = false := beq_eq_false_iff_ne.mpr c7
       have c7b1 : (((rd_T33 l1 x12_1).f0) != 1) = true := bne_iff_ne.mpr c7
       by_cases c17 : ((rd_T33 l1 x12_1).f0) = 2
       ·
        rw [if_pos c17] at H
        have c17b0 : (((rd_T33 l1 x12_1).f0) == 2) = true := beq_iff_eq.mpr c17
        have c17b1 : (((rd_T33 l1 x12_1).f0) != 2) = false := bne_eq_false_iff_eq.mpr c17
        clear c17
        by_cases c18 : t485.toList = ((rd_T33 l1 x12_1).f2).toList
        ·
         rw [if_pos c18] at H
         have c18b0 : (t485.toList == ((rd_T33 l1 x12_1).f2).toList) = true := beq_iff_eq.mpr c18
         have c18b1 : (t485.toList != ((rd_T33 l1 x12_1).f2).toList) = false := bne_eq_false_iff_eq.mpr c18
         clear c18
         obtain rfl := Option.some.inj H
         have p483 : 0 ≤ (x12_1 : Int) := of_decide_eq_true (by first | (with_reducible assumption) | assumption)
         have q483 : x12_1 < (l1.length : Int) := of_decide_eq_true (by first | (with_reducible assumption) | assumption)
         obtain ⟨ad483, e483, hx483_0, hx483_1, hx483_2⟩ := at_T33 HR1.out x12_1 p483 q483
         cases e483
         replace hx483_0 := (HB.out.cell (World.block_lt_of_cell? w _ hx483_0)).trans hx483_0
         replace hx483_1 := (HB.out.cell (World.block_lt_of_cell? w _ hx483_1)).trans hx483_1
         replace hx483_2 := (HB.out.cell (World.block_lt_of_cell? w _ hx483_2)).trans hx483_2
         replace p483 := eq_true p483
         replace q483 := eq_true q483
         go_wp2_with (first | ((with_reducible refine gate_dst (N := 6) rfl ?_); refine box_event ?hg (N := 6) ?hd (cs := #[.int .i64 0, .string (⟨#[]⟩ : ByteArray), .string (⟨#[]⟩ : ByteArray)]) (t := 33) ?hr ?_; (case hd => rfl); (case hg => rfl); (case hr => first | (go_simp; done) | (go_simp; rfl)); intro gb484 hg w19 hbox hb; have n0_ := Aside0.mk (below_step (by repeat (first | (with_reducible first | exact HB.out | apply below_alloc | apply pw_below_drewN | apply below_drew1) | exact HB.out)) hb); have n1_ := Aside0.mk (hbox); have n2_ := Aside0.mk ((by rw [hg]; exact (below_size (by repeat (first | (with_reducible first | exact HB.out | apply below_alloc | apply pw_below_drewN | apply below_drew1) | exact HB.out))) : w.heap.size ≤ gb484)); have n3_ := Aside0.mk ((by rw [hg]; exact (below_size (by repeat (first | (with_reducible first | exact HB.out | apply below_alloc | apply pw_below_drewN | apply below_drew1) | exact HB.out))) : w.heap.size ≤ gb484)); clear HB; have HB := n0_; have BK484 := n1_; have GW484 := n2_; have GE484 := n3_; clear n0_ n1_ n2_ n3_; clear hb hbox hg; have hcz20_0 : w19.cell? ⟨gb484, 0, none⟩ = some (.int .i64 0) := (blk_cell BK484.out 0).trans rfl; have hcz20_1 : w19.cell? ⟨gb484, 1, none⟩ = some (.string (⟨#[]⟩ : ByteArray)) := (blk_cell BK484.out 1).trans rfl; have hcz20_2 : w19.cell? ⟨gb484, 2, none⟩ = some (.string (⟨#[]⟩ : ByteArray)) := (blk_cell BK484.out 2).trans rfl; have hfz20_0 := blk_frozen BK484.out 0; have hfz20_1 := blk_frozen BK484.out 1; have hfz20_2 := blk_frozen BK484.out 2) | ((with_reducible refine gate_callee (f := 87) rfl ?_); refine goesL_ (some 20) rfl rfl Tryz.func87 (by kernel_rfl) rfl #[.slice A0 l0.length c0, .string ((rd_T33 l1 x12_1).f1)] rfl (by (try simp only [List.map_toArray, List.map_cons, List.map_nil]); first | done | rfl | (simp only [List.length_drop, List.length_take]; rfl)) ?_; (with_reducible refine (attr_Get.calls k1 _ _ l0 ((rd_T33 l1 x12_1).f1) t485 t486 _ ?side1 ?side2 A6.out).mono ?_); (case side1 => exact Kd.C_below HR0.out (by repeat (first | (with_reducible first | exact HB.out | apply below_alloc | apply pw_below_drewN | apply below_drew1 | refine below_set ?_ GE484.out) | exact HB.out))); (case side2 => exact HC0.out); rintro e w21 ⟨rfl, hb⟩; refine ⟨_, rfl, ?_⟩; have n0_ := Aside0.mk (blk_below (g := gb484) (o := .cells #[.int .i64 ((rd_T33 l1 x12_1).f0), .string ((rd_T33 l1 x12_1).f1), .string ((rd_T33 l1 x12_1).f2)] 33 (0, 0)) (by (with_reducible repeat (first | refine blk_drewN ?_ _ | refine blk_drew ?_ | refine blk_alloc ?_ _)); refine blk_put (cs := #[.int .i64 ((rd_T33 l1 x12_1).f0), .string ((rd_T33 l1 x12_1).f1), .string (⟨#[]⟩ : ByteArray)]) ?_ 2 _ rfl; (with_reducible repeat (first | refine blk_drewN ?_ _ | refine blk_drew ?_ | refine blk_alloc ?_ _)); refine blk_put (cs := #[.int .i64 ((rd_T33 l1 x12_1).f0), .string (⟨#[]⟩ : ByteArray), .string (⟨#[]⟩ : ByteArray)]) ?_ 1 _ rfl; (with_reducible repeat (first | refine blk_drewN ?_ _ | refine blk_drew ?_ | refine blk_alloc ?_ _)); refine blk_put (cs := #[.int .i64 0, .string (⟨#[]⟩ : ByteArray), .string (⟨#[]⟩ : ByteArray)]) ?_ 0 _ rfl; (with_reducible repeat (first | refine blk_drewN ?_ _ | refine blk_drew ?_ | refine blk_alloc ?_ _)); exact BK484.out) hb); have n1_ := Aside0.mk (below_step (by repeat (first | (with_reducible first | exact HB.out | apply below_alloc | apply pw_below_drewN | apply below_drew1 | refine below_set ?_ GE484.out) | exact HB.out)) hb); clear BK484; clear HB; have BK484 := n0_; have HB := n1_; clear n0_ n1_; (try clear hb); (try clear hb2); (try clear hk); (try clear hi); have hcz22_0 : w21.cell? ⟨gb484, 0, none⟩ = some (.int .i64 ((rd_T33 l1 x12_1).f0)) := (blk_cell BK484.out 0).trans rfl; have hcz22_1 : w21.cell? ⟨gb484, 1, none⟩ = some (.string ((rd_T33 l1 x12_1).f1)) := (blk_cell BK484.out 1).trans rfl; have hcz22_2 : w21.cell? ⟨gb484, 2, none⟩ = some (.string ((rd_T33 l1 x12_1).f2)) := (blk_cell BK484.out 2).trans rfl; have hfz22_0 := blk_frozen BK484.out 0; have hfz22_1 := blk_frozen BK484.out 1; have hfz22_2 := blk_frozen BK484.out 2))
         go_ret
         exact ⟨by first | rfl | (simp [errW_none, errW_some] <;> rfl) | (simp [*, errW_none, errW_some] <;> rfl), by repeat (first | (with_reducible first | exact HB.out | apply below_alloc | apply pw_below_drewN | apply below_drew1 | refine below_set ?_ GE484.out) | exact HB.out)⟩
        ·
         rw [if_neg c18] at H
         have c18b0 : (t485.toList == ((rd_T33 l1 x12_1).f2).toList) = false := beq_eq_false_iff_ne.mpr c18
         have c18b1 : (t485.toList != ((rd_T33 l1 x12_1).f2).toList) = true := bne_iff_ne.mpr c18
         have H' := Aside0.mk H
         clear H
         have p483 : 0 ≤ (x12_1 : Int) := of_decide_eq_true (by first | (with_reducible assumption) | assumption)
         have q483 : x12_1 < (l1.length : Int) := of_decide_eq_true (by first | (with_reducible assumption) | assumption)
         obtain ⟨ad483, e483, hx483_0, hx483_1, hx483_2⟩ := at_T33 HR1.out x12_1 p483 q483
         cases e483
         replace hx483_0 := (HB.out.cell (World.block_lt_of_cell? w _ hx483_0)).trans hx483_0
         replace hx483_1 := (HB.out.cell (World.block_lt_of_cell? w _ hx483_1)).trans hx483_1
         replace hx483_2 := (HB.out.cell (World.block_lt_of_cell? w _ hx483_2)).trans hx483_2
         replace p483 := eq_true p483
         replace q483 := eq_true q483
         go_wp2_with (first | ((with_reducible refine gate_dst (N := 6) rfl ?_); refine box_event ?hg (N := 6) ?hd (cs := #[.int .i64 0, .string (⟨#[]⟩ : ByteArray), .string (⟨#[]⟩ : ByteArray)]) (t := 33) ?hr ?_; (case hd => rfl); (case hg => rfl); (case hr => first | (go_simp; done) | (go_simp; rfl)); intro gb484 hg w23 hbox hb; have n0_ := Aside0.mk (below_step (by repeat (first | (with_reducible first | exact HB.out | apply below_alloc | apply pw_below_drewN | apply below_drew1) | exact HB.out)) hb); have n1_ := Aside0.mk (hbox); have n2_ := Aside0.mk ((by rw [hg]; exact (below_size (by repeat (first | (with_reducible first | exact HB.out | apply below_alloc | apply pw_below_drewN | apply below_drew1) | exact HB.out))) : w.heap.size ≤ gb484)); have n3_ := Aside0.mk ((by rw [hg]; exact (below_size (by repeat (first | (with_reducible first | exact HB.out | apply below_alloc | apply pw_below_drewN | apply below_drew1) | exact HB.out))) : w.heap.size ≤ gb484)); clear HB; have HB := n0_; have BK484 := n1_; have GW484 := n2_; have GE484 := n3_; clear n0_ n1_ n2_ n3_; clear hb hbox hg; have hcz24_0 : w23.cell? ⟨gb484, 0, none⟩ = some (.int .i64 0) := (blk_cell BK484.out 0).trans rfl; have hcz24_1 : w23.cell? ⟨gb484, 1, none⟩ = some (.string (⟨#[]⟩ : ByteArray)) := (blk_cell BK484.out 1).trans rfl; have hcz24_2 : w23.cell? ⟨gb484, 2, none⟩ = some (.string (⟨#[]⟩ : ByteArray)) := (blk_cell BK484.out 2).trans rfl; have hfz24_0 := blk_frozen BK484.out 0; have hfz24_1 := blk_frozen BK484.out 1; have hfz24_2 := blk_frozen BK484.out 2) | ((with_reducible refine gate_callee (f := 87) rfl ?_); refine goesL_ (some 20) rfl rfl Tryz.func87 (by kernel_rfl) rfl #[.slice A0 l0.length c0, .string ((rd_T33 l1 x12_1).f1)] rfl (by (try simp only [List.map_toArray, List.map_cons, List.map_nil]); first | done | rfl | (simp only [List.length_drop, List.length_take]; rfl)) ?_; (with_reducible refine (attr_Get.calls k1 _ _ l0 ((rd_T33 l1 x12_1).f1) t485 t486 _ ?side1 ?side2 A6.out).mono ?_); (case side1 => exact Kd.C_below HR0.out (by repeat (first | (with_reducible first | exact HB.out | apply below_alloc | apply pw_below_drewN | apply below_drew1 | refine below_set ?_ GE484.out) | exact HB.out))); (case side2 => exact HC0.out); rintro e w25 ⟨rfl, hb⟩; refine ⟨_, rfl, ?_⟩; have n0_ := Aside0.mk (blk_below (g := gb484) (o := .cells #[.int .i64 ((rd_T33 l1 x12_1).f0), .string ((rd_T33 l1 x12_1).f1), .string ((rd_T33 l1 x12_1).f2)] 33 (0, 0)) (by (with_reducible repeat (first | refine blk_drewN ?_ _ | refine blk_drew ?_ | refine blk_alloc ?_ _)); refine blk_put (cs := #[.int .i64 ((rd_T33 l1 x12_1).f0), .string ((rd_T33 l1 x12_1).f1), .string (⟨#[]⟩ : ByteArray)]) ?_ 2 _ rfl; (with_reducible repeat (first | refine blk_drewN ?_ _ | refine blk_drew ?_ | refine blk_alloc ?_ _)); refine blk_put (cs := #[.int .i64 ((rd_T33 l1 x12_1).f0), .string (⟨#[]⟩ : ByteArray), .string (⟨#[]⟩ : ByteArray)]) ?_ 1 _ rfl; (with_reducible repeat (first | refine blk_drewN ?_ _ | refine blk_drew ?_ | refine blk_alloc ?_ _)); refine blk_put (cs := #[.int .i64 0, .string (⟨#[]⟩ : ByteArray), .string (⟨#[]⟩ : ByteArray)]) ?_ 0 _ rfl; (with_reducible repeat (first | refine blk_drewN ?_ _ | refine blk_drew ?_ | refine blk_alloc ?_ _)); exact BK484.out) hb); have n1_ := Aside0.mk (below_step (by repeat (first | (with_reducible first | exact HB.out | apply below_alloc | apply pw_below_drewN | apply below_drew1 | refine below_set ?_ GE484.out) | exact HB.out)) hb); clear BK484; clear HB; have BK484 := n0_; have HB := n1_; clear n0_ n1_; (try clear hb); (try clear hb2); (try clear hk); (try clear hi); have hcz26_0 : w25.cell? ⟨gb484, 0, none⟩ = some (.int .i64 ((rd_T33 l1 x12_1).f0)) := (blk_cell BK484.out 0).trans rfl; have hcz26_1 : w25.cell? ⟨gb484, 1, none⟩ = some (.string ((rd_T33 l1 x12_1).f1)) := (blk_cell BK484.out 1).trans rfl; have hcz26_2 : w25.cell? ⟨gb484, 2, none⟩ = some (.string ((rd_T33 l1 x12_1).f2)) := (blk_cell BK484.out 2).trans rfl; have hfz26_0 := blk_frozen BK484.out 0; have hfz26_1 := blk_frozen BK484.out 1; have hfz26_2 := blk_frozen BK484.out 2))
         go_roundg k1
         case measure => have := HK1.out; omega
         case rel => exact ⟨(wrap64 (x12_1 + 1)), (by first | rfl | (simp; done) | (simp [*]; done)), H', ⟨by have := HK1.out; omega⟩, ⟨by repeat (first | (with_reducible first | exact HB.out | apply below_alloc | apply pw_below_drewN | apply below_drew1 | refine below_set ?_ GE484.out) | exact HB.out)⟩⟩
       ·
        rw [if_neg c17] at H
        have c17b0 : (((rd_T33 l1 x12_1).f0) == 2) = false := beq_eq_false_iff_ne.mpr c17
        have c17b1 : (((rd_T33 l1 x12_1).f0) != 2) = true := bne_iff_ne.mpr c17
        by_cases c27 : ((rd_T33 l1 x12_1).f0) = 3
        ·
         rw [if_pos c27] at H
         have c27b0 : (((rd_T33 l1 x12_1).f0) == 3) = true := beq_iff_eq.mpr c27
         have c27b1 : (((rd_T33 l1 x12_1).f0) != 3) = false := bne_eq_false_iff_eq.mpr c27
         clear c27
         replace H := Option.bind_eq_some_iff.mp H
         obtain ⟨t487, A280, H⟩ := H
         replace H : (if t487 = true then (attr_Fits.l0 k1 l0 l1 (l1.length : Int) (wrap64 (x12_1 + 1))) else (some false)) = some r := H
         have A28 := Aside0.mk A280
         clear A280
         by_cases c29 : t487 = true
         ·
          subst c29
          have H1 : (attr_Fits.l0 k1 l0 l1 (l1.length : Int) (wrap64 (x12_1 + 1))) = some r := by rw [if_pos rfl] at H; exact H
          clear H
          have H := H1
          clear H1
          have H' := Aside0.mk H
          clear H
          have p483 : 0 ≤ (x12_1 : Int) := of_decide_eq_true (by first | (with_reducible assumption) | assumption)
          have q483 : x12_1 < (l1.length : Int) := of_decide_eq_true (by first | (with_reducible assumption) | assumption)
          obtain ⟨ad483, e483, hx483_0, hx483_1, hx483_2⟩ := at_T33 HR1.out x12_1 p483 q483
          cases e483
          replace hx483_0 := (HB.out.cell (World.block_lt_of_cell? w _ hx483_0)).trans hx483_0
          replace hx483_1 := (HB.out.cell (World.block_lt_of_cell? w _ hx483_1)).trans hx483_1
          replace hx483_2 := (HB.out.cell (World.block_lt_of_cell? w _ hx483_2)).trans hx483_2
          replace p483 := eq_true p483
          replace q483 := eq_true q483
          go_wp2_with (first | ((with_reducible refine gate_dst (N := 6) rfl ?_); refine box_event ?hg (N := 6) ?hd (cs := #[.int .i64 0, .string (⟨#[]⟩ : ByteArray), .string (⟨#[]⟩ : ByteArray)]) (t := 33) ?hr ?_; (case hd => rfl); (case hg => rfl); (case hr => first | (go_simp; done) | (go_simp; rfl)); intro gb484 hg w30 hbox hb; have n0_ := Aside0.mk (below_step (by repeat (first | (with_reducible first | exact HB.out | apply below_alloc | apply pw_below_drewN | apply below_drew1) | exact HB.out)) hb); have n1_ := Aside0.mk (hbox); have n2_ := Aside0.mk ((by rw [hg]; exact (below_size (by repeat (first | (with_reducible first | exact HB.out | apply below_alloc | apply pw_below_drewN | apply below_drew1) | exact HB.out))) : w.heap.size ≤ gb484)); have n3_ := Aside0.mk ((by rw [hg]; exact (below_size (by repeat (first | (with_reducible first | exact HB.out | apply below_alloc | apply pw_below_drewN | apply below_drew1) | exact HB.out))) : w.heap.size ≤ gb484)); clear HB; have HB := n0_; have BK484 := n1_; have GW484 := n2_; have GE484 := n3_; clear n0_ n1_ n2_ n3_; clear hb hbox hg; have hcz31_0 : w30.cell? ⟨gb484, 0, none⟩ = some (.int .i64 0) := (blk_cell BK484.out 0).trans rfl; have hcz31_1 : w30.cell? ⟨gb484, 1, none⟩ = some (.string (⟨#[]⟩ : ByteArray)) := (blk_cell BK484.out 1).trans rfl; have hcz31_2 : w30.cell? ⟨gb484, 2, none⟩ = some (.string (⟨#[]⟩ : ByteArray)) := (blk_cell BK484.out 2).trans rfl; have hfz31_0 := blk_frozen BK484.out 0; have hfz31_1 := blk_frozen BK484.out 1; have hfz31_2 := blk_frozen BK484.out 2) | ((with_reducible refine gate_callee (f := 87) rfl ?_); refine goesL_ (some 20) rfl rfl Tryz.func87 (by kernel_rfl) rfl #[.slice A0 l0.length c0, .string ((rd_T33 l1 x12_1).f1)] rfl (by (try simp only [List.map_toArray, List.map_cons, List.map_nil]); first | done | rfl | (simp only [List.length_drop, List.length_take]; rfl)) ?_; (with_reducible refine (attr_Get.calls k1 _ _ l0 ((rd_T33 l1 x12_1).f1) t485 t486 _ ?side1 ?side2 A6.out).mono ?_); (case side1 => exact Kd.C_below HR0.out (by repeat (first | (with_reducible first | exact HB.out | apply below_alloc | apply pw_below_drewN | apply below_drew1 | refine below_set ?_ GE484.out) | exact HB.out))); (case side2 => exact HC0.out); rintro e w32 ⟨rfl, hb⟩; refine ⟨_, rfl, ?_⟩; have n0_ := Aside0.mk (blk_below (g := gb484) (o := .cells #[.int .i64 ((rd_T33 l1 x12_1).f0), .string ((rd_T33 l1 x12_1).f1), .string ((rd_T33 l1 x12_1).f2)] 33 (0, 0)) (by (with_reducible repeat (first | refine blk_drewN ?_ _ | refine blk_drew ?_ | refine blk_alloc ?_ _)); refine blk_put (cs := #[.int .i64 ((rd_T33 l1 x12_1).f0), .string ((rd_T33 l1 x12_1).f1), .string (⟨#[]⟩ : ByteArray)]) ?_ 2 _ rfl; (with_reducible repeat (first | refine blk_drewN ?_ _ | refine blk_drew ?_ | refine blk_alloc ?_ _)); refine blk_put (cs := #[.int .i64 ((rd_T33 l1 x12_1).f0), .string (⟨#[]⟩ : ByteArray), .string (⟨#[]⟩ : ByteArray)]) ?_ 1 _ rfl; (with_reducible repeat (first | refine blk_drewN ?_ _ | refine blk_drew ?_ | refine blk_alloc ?_ _)); refine blk_put (cs := #[.int .i64 0, .string (⟨#[]⟩ : ByteArray), .string (⟨#[]⟩ : ByteArray)]) ?_ 0 _ rfl; (with_reducible repeat (first | refine blk_drewN ?_ _ | refine blk_drew ?_ | refine blk_alloc ?_ _)); exact BK484.out) hb); have n1_ := Aside0.mk (below_step (by repeat (first | (with_reducible first | exact HB.out | apply below_alloc | apply pw_below_drewN | apply below_drew1 | refine below_set ?_ GE484.out) | exact HB.out)) hb); clear BK484; clear HB; have BK484 := n0_; have HB := n1_; clear n0_ n1_; (try clear hb); (try clear hb2); (try clear hk); (try clear hi); have hcz33_0 : w32.cell? ⟨gb484, 0, none⟩ = some (.int .i64 ((rd_T33 l1 x12_1).f0)) := (blk_cell BK484.out 0).trans rfl; have hcz33_1 : w32.cell? ⟨gb484, 1, none⟩ = some (.string ((rd_T33 l1 x12_1).f1)) := (blk_cell BK484.out 1).trans rfl; have hcz33_2 : w32.cell? ⟨gb484, 2, none⟩ = some (.string ((rd_T33 l1 x12_1).f2)) := (blk_cell BK484.out 2).trans rfl; have hfz33_0 := blk_frozen BK484.out 0; have hfz33_1 := blk_frozen BK484.out 1; have hfz33_2 := blk_frozen BK484.out 2) | ((with_reducible refine gate_callee (f := 88) rfl ?_); refine goesL_ (some 42) rfl rfl Tryz.func88 (by kernel_rfl) rfl #[.string t485, .string ((rd_T33 l1 x12_1).f2)] rfl (by (try simp only [List.map_toArray, List.map_cons, List.map_nil]); first | done | rfl | (simp only [List.length_drop, List.length_take]; rfl)) ?_; (with_reducible refine (strings_Contains.calls t485 ((rd_T33 l1 x12_1).f2) true _ A28.out).mono ?_); rintro e w' ⟨rfl, ⟨nd, rfl⟩⟩; refine ⟨_, rfl, ?_⟩))
          go_roundg k1
          case measure => have := HK1.out; omega
          case rel => exact ⟨(wrap64 (x12_1 + 1)), (by first | rfl | (simp; done) | (simp [*]; done)), H', ⟨by have := HK1.out; omega⟩, ⟨by repeat (first | (with_reducible first | exact HB.out | apply below_alloc | apply pw_below_drewN | apply below_drew1 | refine below_set ?_ GE484.out) | exact HB.out)⟩⟩
         ·
          replace c29 := Bool.eq_false_iff.mpr c29
          subst c29
          have H1 : (some false) = some r := by rw [if_neg (show ¬ (false = true) by decide)] at H; exact H
          clear H
          have H := H1
          clear H1
          obtain rfl := Option.some.inj H
          have p483 : 0 ≤ (x12_1 : Int) := of_decide_eq_true (by first | (with_reducible assumption) | assumption)
          have q483 : x12_1 < (l1.length : Int) := of_decide_eq_true (by first | (with_reducible assumption) | assumption)
          obtain ⟨ad483, e483, hx483_0, hx483_1, hx483_2⟩ := at_T33 HR1.out x12_1 p483 q483
          cases e483
          replace hx483_0 := (HB.out.cell (World.block_lt_of_cell? w _ hx483_0)).trans hx483_0
          replace hx483_1 := (HB.out.cell (World.block_lt_of_cell? w _ hx483_1)).trans hx483_1
          replace hx483_2 := (HB.out.cell (World.block_lt_of_cell? w _ hx483_2)).trans hx483_2
          replace p483 := eq_true p483
          replace q483 := eq_true q483
          go_wp2_with (first | ((with_reducible refine gate_dst (N := 6) rfl ?_); refine box_event ?hg (N := 6) ?hd (cs := #[.int .i64 0, .string (⟨#[]⟩ : ByteArray), .string (⟨#[]⟩ : ByteArray)]) (t := 33) ?hr ?_; (case hd => rfl); (case hg => rfl); (case hr => first | (go_simp; done) | (go_simp; rfl)); intro gb484 hg w34 hbox hb; have n0_ := Aside0.mk (below_step (by repeat (first | (with_reducible first | exact HB.out | apply below_alloc | apply pw_below_drewN | apply below_drew1) | exact HB.out)) hb); have n1_ := Aside0.mk (hbox); have n2_ := Aside0.mk ((by rw [hg]; exact (below_size (by repeat (first | (with_reducible first | exact HB.out | apply below_alloc | apply pw_below_drewN | apply below_drew1) | exact HB.out))) : w.heap.size ≤ gb484)); have n3_ := Aside0.mk ((by rw [hg]; exact (below_size (by repeat (first | (with_reducible first | exact HB.out | apply below_alloc | apply pw_below_drewN | apply below_drew1) | exact HB.out))) : w.heap.size ≤ gb484)); clear HB; have HB := n0_; have BK484 := n1_; have GW484 := n2_; have GE484 := n3_; clear n0_ n1_ n2_ n3_; clear hb hbox hg; have hcz35_0 : w34.cell? ⟨gb484, 0, none⟩ = some (.int .i64 0) := (blk_cell BK484.out 0).trans rfl; have hcz35_1 : w34.cell? ⟨gb484, 1, none⟩ = some (.string (⟨#[]⟩ : ByteArray)) := (blk_cell BK484.out 1).trans rfl; have hcz35_2 : w34.cell? ⟨gb484, 2, none⟩ = some (.string (⟨#[]⟩ : ByteArray)) := (blk_cell BK484.out 2).trans rfl; have hfz35_0 := blk_frozen BK484.out 0; have hfz35_1 := blk_frozen BK484.out 1; have hfz35_2 := blk_frozen BK484.out 2) | ((with_reducible refine gate_callee (f := 87) rfl ?_); refine goesL_ (some 20) rfl rfl Tryz.func87 (by kernel_rfl) rfl #[.slice A0 l0.length c0, .string ((rd_T33 l1 x12_1).f1)] rfl (by (try simp only [List.map_toArray, List.map_cons, List.map_nil]); first | done | rfl | (simp only [List.length_drop, List.length_take]; rfl)) ?_; (with_reducible refine (attr_Get.calls k1 _ _ l0 ((rd_T33 l1 x12_1).f1) t485 t486 _ ?side1 ?side2 A6.out).mono ?_); (case side1 => exact Kd.C_below HR0.out (by repeat (first | (with_reducible first | exact HB.out | apply below_alloc | apply pw_below_drewN | apply below_drew1 | refine below_set ?_ GE484.out) | exact HB.out))); (case side2 => exact HC0.out); rintro e w36 ⟨rfl, hb⟩; refine ⟨_, rfl, ?_⟩; have n0_ := Aside0.mk (blk_below (g := gb484) (o := .cells #[.int .i64 ((rd_T33 l1 x12_1).f0), .string ((rd_T33 l1 x12_1).f1), .string ((rd_T33 l1 x12_1).f2)] 33 (0, 0)) (by (with_reducible repeat (first | refine blk_drewN ?_ _ | refine blk_drew ?_ | refine blk_alloc ?_ _)); refine blk_put (cs := #[.int .i64 ((rd_T33 l1 x12_1).f0), .string ((rd_T33 l1 x12_1).f1), .string (⟨#[]⟩ : ByteArray)]) ?_ 2 _ rfl; (with_reducible repeat (first | refine blk_drewN ?_ _ | refine blk_drew ?_ | refine blk_alloc ?_ _)); refine blk_put (cs := #[.int .i64 ((rd_T33 l1 x12_1).f0), .string (⟨#[]⟩ : ByteArray), .string (⟨#[]⟩ : ByteArray)]) ?_ 1 _ rfl; (with_reducible repeat (first | refine blk_drewN ?_ _ | refine blk_drew ?_ | refine blk_alloc ?_ _)); refine blk_put (cs := #[.int .i64 0, .string (⟨#[]⟩ : ByteArray), .string (⟨#[]⟩ : ByteArray)]) ?_ 0 _ rfl; (with_reducible repeat (first | refine blk_drewN ?_ _ | refine blk_drew ?_ | refine blk_alloc ?_ _)); exact BK484.out) hb); have n1_ := Aside0.mk (below_step (by repeat (first | (with_reducible first | exact HB.out | apply below_alloc | apply pw_below_drewN | apply below_drew1 | refine below_set ?_ GE484.out) | exact HB.out)) hb); clear BK484; clear HB; have BK484 := n0_; have HB := n1_; clear n0_ n1_; (try clear hb); (try clear hb2); (try clear hk); (try clear hi); have hcz37_0 : w36.cell? ⟨gb484, 0, none⟩ = some (.int .i64 ((rd_T33 l1 x12_1).f0)) := (blk_cell BK484.out 0).trans rfl; have hcz37_1 : w36.cell? ⟨gb484, 1, none⟩ = some (.string ((rd_T33 l1 x12_1).f1)) := (blk_cell BK484.out 1).trans rfl; have hcz37_2 : w36.cell? ⟨gb484, 2, none⟩ = some (.string ((rd_T33 l1 x12_1).f2)) := (blk_cell BK484.out 2).trans rfl; have hfz37_0 := blk_frozen BK484.out 0; have hfz37_1 := blk_frozen BK484.out 1; have hfz37_2 := blk_frozen BK484.out 2) | ((with_reducible refine gate_callee (f := 88) rfl ?_); refine goesL_ (some 42) rfl rfl Tryz.func88 (by kernel_rfl) rfl #[.string t485, .string ((rd_T33 l1 x12_1).f2)] rfl (by (try simp only [List.map_toArray, List.map_cons, List.map_nil]); first | done | rfl | (simp only [List.length_drop, List.length_take]; rfl)) ?_; (with_reducible refine (strings_Contains.calls t485 ((rd_T33 l1 x12_1).f2) false _ A28.out).mono ?_); rintro e w' ⟨rfl, ⟨nd, rfl⟩⟩; refine ⟨_, rfl, ?_⟩))
          go_ret
          exact ⟨by first | rfl | (simp [errW_none, errW_some] <;> rfl) | (simp [*, errW_none, errW_some] <;> rfl), by repeat (first | (with_reducible first | exact HB.out | apply below_alloc | apply pw_below_drewN | apply below_drew1 | refine below_set ?_ GE484.out) | exact HB.out)⟩
        ·
         rw [if_neg c27] at H
         have c27b0 : (((rd_T33 l1 x12_1).f0) == 3) = false := beq_eq_false_iff_ne.mpr c27
         have c27b1 : (((rd_T33 l1 x12_1).f0) != 3) = true := bne_iff_ne.mpr c27
         by_cases c38 : ((rd_T33 l1 x12_1).f0) = 4
         ·
          rw [if_pos c38] at H
          have c38b0 : (((rd_T33 l1 x12_1).f0) == 4) = true := beq_iff_eq.mpr c38
          have c38b1 : (((rd_T33 l1 x12_1).f0) != 4) = false := bne_eq_false_iff_eq.mpr c38
          clear c38
          replace H := Option.bind_eq_some_iff.mp H
          obtain ⟨t488, A390, H⟩ := H
          replace H : (if t488 = true then (some false) else (attr_Fits.l0 k1 l0 l1 (l1.length : Int) (wrap64 (x12_1 + 1)))) = some r := H
          have A39 := Aside0.mk A390
          clear A390
          by_cases c40 : t488 = true
          ·
           subst c40
           have H1 : (some false) = some r := by rw [if_pos rfl] at H; exact H
           clear H
           have H := H1
           clear H1
           obtain rfl := Option.some.inj H
           have p483 : 0 ≤ (x12_1 : Int) := of_decide_eq_true (by first | (with_reducible assumption) | assumption)
           have q483 : x12_1 < (l1.length : Int) := of_decide_eq_true (by first | (with_reducible assumption) | assumption)
           obtain ⟨ad483, e483, hx483_0, hx483_1, hx483_2⟩ := at_T33 HR1.out x12_1 p483 q483
           cases e483
           replace hx483_0 := (HB.out.cell (World.block_lt_of_cell? w _ hx483_0)).trans hx483_0
           replace hx483_1 := (HB.out.cell (World.block_lt_of_cell? w _ hx483_1)).trans hx483_1
           replace hx483_2 := (HB.out.cell (World.block_lt_of_cell? w _ hx483_2)).trans hx483_2
           replace p483 := eq_true p483
           replace q483 := eq_true q483
           go_wp2_with (first | ((with_reducible refine gate_dst (N := 6) rfl ?_); refine box_event ?hg (N := 6) ?hd (cs := #[.int .i64 0, .string (⟨#[]⟩ : ByteArray), .string (⟨#[]⟩ : ByteArray)]) (t := 33) ?hr ?_; (case hd => rfl); (case hg => rfl); (case hr => first | (go_simp; done) | (go_simp; rfl)); intro gb484 hg w41 hbox hb; have n0_ := Aside0.mk (below_step (by repeat (first | (with_reducible first | exact HB.out | apply below_alloc | apply pw_below_drewN | apply below_drew1) | exact HB.out)) hb); have n1_ := Aside0.mk (hbox); have n2_ := Aside0.mk ((by rw [hg]; exact (below_size (by repeat (first | (with_reducible first | exact HB.out | apply below_alloc | apply pw_below_drewN | apply below_drew1) | exact HB.out))) : w.heap.size ≤ gb484)); have n3_ := Aside0.mk ((by rw [hg]; exact (below_size (by repeat (first | (with_reducible first | exact HB.out | apply below_alloc | apply pw_below_drewN | apply below_drew1) | exact HB.out))) : w.heap.size ≤ gb484)); clear HB; have HB := n0_; have BK484 := n1_; have GW484 := n2_; have GE484 := n3_; clear n0_ n1_ n2_ n3_; clear hb hbox hg; have hcz42_0 : w41.cell? ⟨gb484, 0, none⟩ = some (.int .i64 0) := (blk_cell BK484.out 0).trans rfl; have hcz42_1 : w41.cell? ⟨gb484, 1, none⟩ = some (.string (⟨#[]⟩ : ByteArray)) := (blk_cell BK484.out 1).trans rfl; have hcz42_2 : w41.cell? ⟨gb484, 2, none⟩ = some (.string (⟨#[]⟩ : ByteArray)) := (blk_cell BK484.out 2).trans rfl; have hfz42_0 := blk_frozen BK484.out 0; have hfz42_1 := blk_frozen BK484.out 1; have hfz42_2 := blk_frozen BK484.out 2) | ((with_reducible refine gate_callee (f := 87) rfl ?_); refine goesL_ (some 20) rfl rfl Tryz.func87 (by kernel_rfl) rfl #[.slice A0 l0.length c0, .string ((rd_T33 l1 x12_1).f1)] rfl (by (try simp only [List.map_toArray, List.map_cons, List.map_nil]); first | done | rfl | (simp only [List.length_drop, List.length_take]; rfl)) ?_; (with_reducible refine (attr_Get.calls k1 _ _ l0 ((rd_T33 l1 x12_1).f1) t485 t486 _ ?side1 ?side2 A6.out).mono ?_); (case side1 => exact Kd.C_below HR0.out (by repeat (first | (with_reducible first | exact HB.out | apply below_alloc | apply pw_below_drewN | apply below_drew1 | refine below_set ?_ GE484.out) | exact HB.out))); (case side2 => exact HC0.out); rintro e w43 ⟨rfl, hb⟩; refine ⟨_, rfl, ?_⟩; have n0_ := Aside0.mk (blk_below (g := gb484) (o := .cells #[.int .i64 ((rd_T33 l1 x12_1).f0), .string ((rd_T33 l1 x12_1).f1), .string ((rd_T33 l1 x12_1).f2)] 33 (0, 0)) (by (with_reducible repeat (first | refine blk_drewN ?_ _ | refine blk_drew ?_ | refine blk_alloc ?_ _)); refine blk_put (cs := #[.int .i64 ((rd_T33 l1 x12_1).f0), .string ((rd_T33 l1 x12_1).f1), .string (⟨#[]⟩ : ByteArray)]) ?_ 2 _ rfl; (with_reducible repeat (first | refine blk_drewN ?_ _ | refine blk_drew ?_ | refine blk_alloc ?_ _)); refine blk_put (cs := #[.int .i64 ((rd_T33 l1 x12_1).f0), .string (⟨#[]⟩ : ByteArray), .string (⟨#[]⟩ : ByteArray)]) ?_ 1 _ rfl; (with_reducible repeat (first | refine blk_drewN ?_ _ | refine blk_drew ?_ | refine blk_alloc ?_ _)); refine blk_put (cs := #[.int .i64 0, .string (⟨#[]⟩ : ByteArray), .string (⟨#[]⟩ : ByteArray)]) ?_ 0 _ rfl; (with_reducible repeat (first | refine blk_drewN ?_ _ | refine blk_drew ?_ | refine blk_alloc ?_ _)); exact BK484.out) hb); have n1_ := Aside0.mk (below_step (by repeat (first | (with_reducible first | exact HB.out | apply below_alloc | apply pw_below_drewN | apply below_drew1 | refine below_set ?_ GE484.out) | exact HB.out)) hb); clear BK484; clear HB; have BK484 := n0_; have HB := n1_; clear n0_ n1_; (try clear hb); (try clear hb2); (try clear hk); (try clear hi); have hcz44_0 : w43.cell? ⟨gb484, 0, none⟩ = some (.int .i64 ((rd_T33 l1 x12_1).f0)) := (blk_cell BK484.out 0).trans rfl; have hcz44_1 : w43.cell? ⟨gb484, 1, none⟩ = some (.string ((rd_T33 l1 x12_1).f1)) := (blk_cell BK484.out 1).trans rfl; have hcz44_2 : w43.cell? ⟨gb484, 2, none⟩ = some (.string ((rd_T33 l1 x12_1).f2)) := (blk_cell BK484.out 2).trans rfl; have hfz44_0 := blk_frozen BK484.out 0; have hfz44_1 := blk_frozen BK484.out 1; have hfz44_2 := blk_frozen BK484.out 2) | ((with_reducible refine gate_callee (f := 88) rfl ?_); refine goesL_ (some 48) rfl rfl Tryz.func88 (by kernel_rfl) rfl #[.string t485, .string ((rd_T33 l1 x12_1).f2)] rfl (by (try simp only [List.map_toArray, List.map_cons, List.map_nil]); first | done | rfl | (simp only [List.length_drop, List.length_take]; rfl)) ?_; (with_reducible refine (strings_Contains.calls t485 ((rd_T33 l1 x12_1).f2) true _ A39.out).mono ?_); rintro e w' ⟨rfl, ⟨nd, rfl⟩⟩; refine ⟨_, rfl, ?_⟩))
           go_ret
           exact ⟨by first | rfl | (simp [errW_none, errW_some] <;> rfl) | (simp [*, errW_none, errW_some] <;> rfl), by repeat (first | (with_reducible first | exact HB.out | apply below_alloc | apply pw_below_drewN | apply below_drew1 | refine below_set ?_ GE484.out) | exact HB.out)⟩
          ·
           replace c40 := Bool.eq_false_iff.mpr c40
           subst c40
           have H1 : (attr_Fits.l0 k1 l0 l1 (l1.length : Int) (wrap64 (x12_1 + 1))) = some r := by rw [if_neg (show ¬ (false = true) by decide)] at H; exact H
           clear H
           have H := H1
           clear H1
           have H' := Aside0.mk H
           clear H
           have p483 : 0 ≤ (x12_1 : Int) := of_decide_eq_true (by first | (with_reducible assumption) | assumption)
           have q483 : x12_1 < (l1.length : Int) := of_decide_eq_true (by first | (with_reducible assumption) | assumption)
           obtain ⟨ad483, e483, hx483_0, hx483_1, hx483_2⟩ := at_T33 HR1.out x12_1 p483 q483
           cases e483
           replace hx483_0 := (HB.out.cell (World.block_lt_of_cell? w _ hx483_0)).trans hx483_0
           replace hx483_1 := (HB.out.cell (World.block_lt_of_cell? w _ hx483_1)).trans hx483_1
           replace hx483_2 := (HB.out.cell (World.block_lt_of_cell? w _ hx483_2)).trans hx483_2
           replace p483 := eq_true p483
           replace q483 := eq_true q483
           go_wp2_with (first | ((with_reducible refine gate_dst (N := 6) rfl ?_); refine box_event ?hg (N := 6) ?hd (cs := #[.int .i64 0, .string (⟨#[]⟩ : ByteArray), .string (⟨#[]⟩ : ByteArray)]) (t := 33) ?hr ?_; (case hd => rfl); (case hg => rfl); (case hr => first | (go_simp; done) | (go_simp; rfl)); intro gb484 hg w45 hbox hb; have n0_ := Aside0.mk (below_step (by repeat (first | (with_reducible first | exact HB.out | apply below_alloc | apply pw_below_drewN | apply below_drew1) | exact HB.out)) hb); have n1_ := Aside0.mk (hbox); have n2_ := Aside0.mk ((by rw [hg]; exact (below_size (by repeat (first | (with_reducible first | exact HB.out | apply below_alloc | apply pw_below_drewN | apply below_drew1) | exact HB.out))) : w.heap.size ≤ gb484)); have n3_ := Aside0.mk ((by rw [hg]; exact (below_size (by repeat (first | (with_reducible first | exact HB.out | apply below_alloc | apply pw_below_drewN | apply below_drew1) | exact HB.out))) : w.heap.size ≤ gb484)); clear HB; have HB := n0_; have BK484 := n1_; have GW484 := n2_; have GE484 := n3_; clear n0_ n1_ n2_ n3_; clear hb hbox hg; have hcz46_0 : w45.cell? ⟨gb484, 0, none⟩ = some (.int .i64 0) := (blk_cell BK484.out 0).trans rfl; have hcz46_1 : w45.cell? ⟨gb484, 1, none⟩ = some (.string (⟨#[]⟩ : ByteArray)) := (blk_cell BK484.out 1).trans rfl; have hcz46_2 : w45.cell? ⟨gb484, 2, none⟩ = some (.string (⟨#[]⟩ : ByteArray)) := (blk_cell BK484.out 2).trans rfl; have hfz46_0 := blk_frozen BK484.out 0; have hfz46_1 := blk_frozen BK484.out 1; have hfz46_2 := blk_frozen BK484.out 2) | ((with_reducible refine gate_callee (f := 87) rfl ?_); refine goesL_ (some 20) rfl rfl Tryz.func87 (by kernel_rfl) rfl #[.slice A0 l0.length c0, .string ((rd_T33 l1 x12_1).f1)] rfl (by (try simp only [List.map_toArray, List.map_cons, List.map_nil]); first | done | rfl | (simp only [List.length_drop, List.length_take]; rfl)) ?_; (with_reducible refine (attr_Get.calls k1 _ _ l0 ((rd_T33 l1 x12_1).f1) t485 t486 _ ?side1 ?side2 A6.out).mono ?_); (case side1 => exact Kd.C_below HR0.out (by repeat (first | (with_reducible first | exact HB.out | apply below_alloc | apply pw_below_drewN | apply below_drew1 | refine below_set ?_ GE484.out) | exact HB.out))); (case side2 => exact HC0.out); rintro e w47 ⟨rfl, hb⟩; refine ⟨_, rfl, ?_⟩; have n0_ := Aside0.mk (blk_below (g := gb484) (o := .cells #[.int .i64 ((rd_T33 l1 x12_1).f0), .string ((rd_T33 l1 x12_1).f1), .string ((rd_T33 l1 x12_1).f2)] 33 (0, 0)) (by (with_reducible repeat (first | refine blk_drewN ?_ _ | refine blk_drew ?_ | refine blk_alloc ?_ _)); refine blk_put (cs := #[.int .i64 ((rd_T33 l1 x12_1).f0), .string ((rd_T33 l1 x12_1).f1), .string (⟨#[]⟩ : ByteArray)]) ?_ 2 _ rfl; (with_reducible repeat (first | refine blk_drewN ?_ _ | refine blk_drew ?_ | refine blk_alloc ?_ _)); refine blk_put (cs := #[.int .i64 ((rd_T33 l1 x12_1).f0), .string (⟨#[]⟩ : ByteArray), .string (⟨#[]⟩ : ByteArray)]) ?_ 1 _ rfl; (with_reducible repeat (first | refine blk_drewN ?_ _ | refine blk_drew ?_ | refine blk_alloc ?_ _)); refine blk_put (cs := #[.int .i64 0, .string (⟨#[]⟩ : ByteArray), .string (⟨#[]⟩ : ByteArray)]) ?_ 0 _ rfl; (with_reducible repeat (first | refine blk_drewN ?_ _ | refine blk_drew ?_ | refine blk_alloc ?_ _)); exact BK484.out) hb); have n1_ := Aside0.mk (below_step (by repeat (first | (with_reducible first | exact HB.out | apply below_alloc | apply pw_below_drewN | apply below_drew1 | refine below_set ?_ GE484.out) | exact HB.out)) hb); clear BK484; clear HB; have BK484 := n0_; have HB := n1_; clear n0_ n1_; (try clear hb); (try clear hb2); (try clear hk); (try clear hi); have hcz48_0 : w47.cell? ⟨gb484, 0, none⟩ = some (.int .i64 ((rd_T33 l1 x12_1).f0)) := (blk_cell BK484.out 0).trans rfl; have hcz48_1 : w47.cell? ⟨gb484, 1, none⟩ = some (.string ((rd_T33 l1 x12_1).f1)) := (blk_cell BK484.out 1).trans rfl; have hcz48_2 : w47.cell? ⟨gb484, 2, none⟩ = some (.string ((rd_T33 l1 x12_1).f2)) := (blk_cell BK484.out 2).trans rfl; have hfz48_0 := blk_frozen BK484.out 0; have hfz48_1 := blk_frozen BK484.out 1; have hfz48_2 := blk_frozen BK484.out 2) | ((with_reducible refine gate_callee (f := 88) rfl ?_); refine goesL_ (some 48) rfl rfl Tryz.func88 (by kernel_rfl) rfl #[.string t485, .string ((rd_T33 l1 x12_1).f2)] rfl (by (try simp only [List.map_toArray, List.map_cons, List.map_nil]); first | done | rfl | (simp only [List.length_drop, List.length_take]; rfl)) ?_; (with_reducible refine (strings_Contains.calls t485 ((rd_T33 l1 x12_1).f2) false _ A39.out).mono ?_); rintro e w' ⟨rfl, ⟨nd, rfl⟩⟩; refine ⟨_, rfl, ?_⟩))
           go_roundg k1
           case measure => have := HK1.out; omega
           case rel => exact ⟨(wrap64 (x12_1 + 1)), (by first | rfl | (simp; done) | (simp [*]; done)), H', ⟨by have := HK1.out; omega⟩, ⟨by repeat (first | (with_reducible first | exact HB.out | apply below_alloc | apply pw_below_drewN | apply below_drew1 | refine below_set ?_ GE484.out) | exact HB.out)⟩⟩
         ·
          rw [if_neg c38] at H
          have c38b0 : (((rd_T33 l1 x12_1).f0) == 4) = false := beq_eq_false_iff_ne.mpr c38
          have c38b1 : (((rd_T33 l1 x12_1).f0) != 4) = true := bne_iff_ne.mpr c38
          obtain rfl := Option.some.inj H
          have p483 : 0 ≤ (x12_1 : Int) := of_decide_eq_true (by first | (with_reducible assumption) | assumption)
          have q483 : x12_1 < (l1.length : Int) := of_decide_eq_true (by first | (with_reducible assumption) | assumption)
          obtain ⟨ad483, e483, hx483_0, hx483_1, hx483_2⟩ := at_T33 HR1.out x12_1 p483 q483
          cases e483
          replace hx483_0 := (HB.out.cell (World.block_lt_of_cell? w _ hx483_0)).trans hx483_0
          replace hx483_1 := (HB.out.cell (World.block_lt_of_cell? w _ hx483_1)).trans hx483_1
          replace hx483_2 := (HB.out.cell (World.block_lt_of_cell? w _ hx483_2)).trans hx483_2
          replace p483 := eq_true p483
          replace q483 := eq_true q483
          go_wp2_with (first | ((with_reducible refine gate_dst (N := 6) rfl ?_); refine box_event ?hg (N := 6) ?hd (cs := #[.int .i64 0, .string (⟨#[]⟩ : ByteArray), .string (⟨#[]⟩ : ByteArray)]) (t := 33) ?hr ?_; (case hd => rfl); (case hg => rfl); (case hr => first | (go_simp; done) | (go_simp; rfl)); intro gb484 hg w49 hbox hb; have n0_ := Aside0.mk (below_step (by repeat (first | (with_reducible first | exact HB.out | apply below_alloc | apply pw_below_drewN | apply below_drew1) | exact HB.out)) hb); have n1_ := Aside0.mk (hbox); have n2_ := Aside0.mk ((by rw [hg]; exact (below_size (by repeat (first | (with_reducible first | exact HB.out | apply below_alloc | apply pw_below_drewN | apply below_drew1) | exact HB.out))) : w.heap.size ≤ gb484)); have n3_ := Aside0.mk ((by rw [hg]; exact (below_size (by repeat (first | (with_reducible first | exact HB.out | apply below_alloc | apply pw_below_drewN | apply below_drew1) | exact HB.out))) : w.heap.size ≤ gb484)); clear HB; have HB := n0_; have BK484 := n1_; have GW484 := n2_; have GE484 := n3_; clear n0_ n1_ n2_ n3_; clear hb hbox hg; have hcz50_0 : w49.cell? ⟨gb484, 0, none⟩ = some (.int .i64 0) := (blk_cell BK484.out 0).trans rfl; have hcz50_1 : w49.cell? ⟨gb484, 1, none⟩ = some (.string (⟨#[]⟩ : ByteArray)) := (blk_cell BK484.out 1).trans rfl; have hcz50_2 : w49.cell? ⟨gb484, 2, none⟩ = some (.string (⟨#[]⟩ : ByteArray)) := (blk_cell BK484.out 2).trans rfl; have hfz50_0 := blk_frozen BK484.out 0; have hfz50_1 := blk_frozen BK484.out 1; have hfz50_2 := blk_frozen BK484.out 2) | ((with_reducible refine gate_callee (f := 87) rfl ?_); refine goesL_ (some 20) rfl rfl Tryz.func87 (by kernel_rfl) rfl #[.slice A0 l0.length c0, .string ((rd_T33 l1 x12_1).f1)] rfl (by (try simp only [List.map_toArray, List.map_cons, List.map_nil]); first | done | rfl | (simp only [List.length_drop, List.length_take]; rfl)) ?_; (with_reducible refine (attr_Get.calls k1 _ _ l0 ((rd_T33 l1 x12_1).f1) t485 t486 _ ?side1 ?side2 A6.out).mono ?_); (case side1 => exact Kd.C_below HR0.out (by repeat (first | (with_reducible first | exact HB.out | apply below_alloc | apply pw_below_drewN | apply below_drew1 | refine below_set ?_ GE484.out) | exact HB.out))); (case side2 => exact HC0.out); rintro e w51 ⟨rfl, hb⟩; refine ⟨_, rfl, ?_⟩; have n0_ := Aside0.mk (blk_below (g := gb484) (o := .cells #[.int .i64 ((rd_T33 l1 x12_1).f0), .string ((rd_T33 l1 x12_1).f1), .string ((rd_T33 l1 x12_1).f2)] 33 (0, 0)) (by (with_reducible repeat (first | refine blk_drewN ?_ _ | refine blk_drew ?_ | refine blk_alloc ?_ _)); refine blk_put (cs := #[.int .i64 ((rd_T33 l1 x12_1).f0), .string ((rd_T33 l1 x12_1).f1), .string (⟨#[]⟩ : ByteArray)]) ?_ 2 _ rfl; (with_reducible repeat (first | refine blk_drewN ?_ _ | refine blk_drew ?_ | refine blk_alloc ?_ _)); refine blk_put (cs := #[.int .i64 ((rd_T33 l1 x12_1).f0), .string (⟨#[]⟩ : ByteArray), .string (⟨#[]⟩ : ByteArray)]) ?_ 1 _ rfl; (with_reducible repeat (first | refine blk_drewN ?_ _ | refine blk_drew ?_ | refine blk_alloc ?_ _)); refine blk_put (cs := #[.int .i64 0, .string (⟨#[]⟩ : ByteArray), .string (⟨#[]⟩ : ByteArray)]) ?_ 0 _ rfl; (with_reducible repeat (first | refine blk_drewN ?_ _ | refine blk_drew ?_ | refine blk_alloc ?_ _)); exact BK484.out) hb); have n1_ := Aside0.mk (below_step (by repeat (first | (with_reducible first | exact HB.out | apply below_alloc | apply pw_below_drewN | apply below_drew1 | refine below_set ?_ GE484.out) | exact HB.out)) hb); clear BK484; clear HB; have BK484 := n0_; have HB := n1_; clear n0_ n1_; (try clear hb); (try clear hb2); (try clear hk); (try clear hi); have hcz52_0 : w51.cell? ⟨gb484, 0, none⟩ = some (.int .i64 ((rd_T33 l1 x12_1).f0)) := (blk_cell BK484.out 0).trans rfl; have hcz52_1 : w51.cell? ⟨gb484, 1, none⟩ = some (.string ((rd_T33 l1 x12_1).f1)) := (blk_cell BK484.out 1).trans rfl; have hcz52_2 : w51.cell? ⟨gb484, 2, none⟩ = some (.string ((rd_T33 l1 x12_1).f2)) := (blk_cell BK484.out 2).trans rfl; have hfz52_0 := blk_frozen BK484.out 0; have hfz52_1 := blk_frozen BK484.out 1; have hfz52_2 := blk_frozen BK484.out 2))
          go_ret
          exact ⟨by first | rfl | (simp [errW_none, errW_some] <;> rfl) | (simp [*, errW_none, errW_some] <;> rfl), by repeat (first | (with_reducible first | exact HB.out | apply below_alloc | apply pw_below_drewN | apply below_drew1 | refine below_set ?_ GE484.out) | exact HB.out)⟩
     ·
      rw [if_neg c5] at H
      exact absurd H (by simp)
    ·
     rw [if_neg c4] at H
     exact absurd H (by simp)
   ·
    rw [if_neg c3] at H
    have c3b0 : decide (x12_1 < (l1.length : Int)) = false := decide_eq_false c3
    clear c3
    obtain rfl := Option.some.inj H
    go_wp2
    go_ret
    exact ⟨by first | rfl | (simp [errW_none, errW_some] <;> rfl) | (simp [*, errW_none, errW_some] <;> rfl), by repeat (first | (with_reducible first | exact HB.out | apply below_alloc | apply pw_below_drewN | apply below_drew1) | exact HB.out)⟩
def slices_Contains_string_string.f (k : Nat) (l0 : List ByteArray) (a1 : ByteArray) : Option (Bool) := (slices_Index_string_string.f k l0 a1).bind fun t489 => (some (decide (t489 ≥ 0)))
set_option maxHeartbeats 8000000 in
set_option maxRecDepth 100000 in
theorem slices_Contains_string_string.calls (k : Nat) (A0 : Option Addr) (c0 : Nat) (l0 : List ByteArray) (a1 : ByteArray) (r : Bool) (w : World) (hr0 : Kd.C Kd.string w A0 l0.length l0) (hc0 : l0.length ≤ c0) (h : slices_Contains_string_string.f k l0 a1 = some r) :
  Calls Tryz.prog 89 #[.slice A0 l0.length c0, .string a1] w fun e w' => e = .returned (.bool r) ∧ Drawn0 w w' := by
 have HR0 := Aside0.mk hr0
 have HC0 := Aside0.mk hc0
 clear hr0 hc0
 have H : ((slices_Index_string_string.f k l0 a1).bind fun t489 => (some (decide (t489 ≥ 0)))) = some r := h
 clear h
 replace H := Option.bind_eq_some_iff.mp H
 obtain ⟨t489, A30, H⟩ := H
 replace H : (some (decide (t489 ≥ 0))) = some r := H
 have A3 := Aside0.mk A30
 clear A30
 obtain rfl := Option.some.inj H
 go_enter Tryz.func89, Tryz.ntmps89
 go_wp2_with (first | ((with_reducible refine gate_callee (f := 76) rfl ?_); refine goesL_ (some 7) rfl rfl Tryz.func76 (by kernel_rfl) rfl #[.slice A0 l0.length c0, .string a1] rfl (by (try simp only [List.map_toArray, List.map_cons, List.map_nil]); first | done | rfl | (simp only [List.length_drop, List.length_take]; rfl)) ?_; (with_reducible refine (slices_Index_string_string.calls k _ _ l0 a1 t489 _ ?side1 ?side2 A3.out).mono ?_); (case side1 => repeat (first | exact HR0.out | (with_reducible refine Kd.C_alloc ?_ _) | (with_reducible refine Kd.C_drewN ?_ _) | (with_reducible refine Kd.C_drew ?_))); (case side2 => exact HC0.out); rintro e w' ⟨rfl, ⟨nd, rfl⟩⟩; refine ⟨_, rfl, ?_⟩))
 go_ret
 exact ⟨by first | rfl | (simp; done) | (simp [*]; done), by repeat (first | exact Drawn0.refl _ | apply Drawn0.step)⟩
def attr_Without.l0 : Nat → List ByteArray → List (S62) → List (S62) → Int → Int → Option ((List (S62)))
  | 0, _, _, _, _, _ => none
  | k + 1, x1, x5, x8, x9, x10 => if x10 < x9 then (if 0 ≤ x10 then (if x10 < (x8.length : Int) then ((slices_Contains_string_string.f k x1 ((rd_T62 x8 x10).f0)).bind fun t492 => (if t492 = true then (attr_Without.l0 k x1 x5 x8 x9 (wrap64 (x10 + 1))) else (if x5.length < 4398046511104 then (attr_Without.l0 k x1 (x5 ++ [(⟨(rd_T62 x8 x10).f0, (rd_T62 x8 x10).f1⟩ : S62)]) x8 x9 (wrap64 (x10 + 1))) else (none)))) else (none)) else (none)) else (some x5)
def attr_Without.f (k : Nat) (l0 : List (S62)) (l1 : List ByteArray) : Option ((List (S62))) := attr_Without.l0 k l1 ([] : List (S62)) l0 (l0.length : Int) 0
set_option maxHeartbeats 8000000 in
set_option maxRecDepth 100000 in
theorem attr_Without.calls (k : Nat) (A0 : Option Addr) (c0 : Nat) (l0 : List (S62)) (A1 : Option Addr) (c1 : Nat) (l1 : List ByteArray) (r : List (S62)) (w : World) (hr0 : Kd.C k62 w A0 l0.length l0) (hc0 : l0.length ≤ c0) (hr1 : Kd.C Kd.string w A1 l1.length l1) (hc1 : l1.length ≤ c1) (h : attr_Without.f k l0 l1 = some r) :
  Calls Tryz.prog 57 #[.slice A0 l0.length c0, .slice A1 l1.length c1] w fun e w' => ∃ v0_ : Value, e = .returned (v0_) ∧ Kd.R k62 62 w' w.heap.size (fun _ => True) v0_ r ∧ Below w.heap.size w w' := by
 have hu62 := Tryz.underlying62
 have HR0 := Aside0.mk hr0
 have HC0 := Aside0.mk hc0
 clear hr0 hc0
 have HR1 := Aside0.mk hr1
 have HC1 := Aside0.mk hc1
 clear hr1 hc1
 have HB := Aside0.mk (Below.refl w.heap.size w)
 have H : (attr_Without.l0 k l1 ([] : List (S62)) l0 (l0.length : Int) 0) = some r := h
 clear h
 have H' := Aside0.mk H
 clear H
 go_enter Tryz.func57, Tryz.ntmps57
 go_wp2
 go_loopg [5, 10] k (fun kq v5 v10 w' => ∃ (x5_1 : List (S62)) (x10_1 : Int), v10 = .int .i64 x10_1 ∧ Aside0 (attr_Without.l0 kq l1 x5_1 l0 (l0.length : Int) x10_1 = some r) ∧ Aside0 (kq ≤ k) ∧ Aside0 (Kd.R k62 62 w' w.heap.size (fun _ => True) v5 x5_1) ∧ Aside0 (Below w.heap.size w w'))
 case atStart => exact ⟨(([] : List (S62))), (0), (by first | rfl | (simp; done) | (simp [*]; done)), H', ⟨Nat.le_refl _⟩, ⟨by first | exact Kd.R_nil _ _ _ _ _ | exact Kd.N_nil _ _ _ _ _ | exact Kd.V_nil _ _ _ _ _ | exact Kd.Q_nil _ _ _ _ _ | exact Kd.S_nil _ _ _ _ _⟩, ⟨by repeat (first | (with_reducible first | exact HB.out | apply below_alloc | apply pw_below_drewN | apply below_drew1) | exact HB.out)⟩⟩
 case round =>
  clear H'
  try clear c1
  try clear p2
  obtain ⟨x5_1, x10_1, rfl, HA, HK1, HO_5, HB⟩ := hrel
  cases gk with
  | zero => exact absurd HA.out (by simp [attr_Without.l0])
  | succ k1 =>
   have H := HA.out
   clear HA
   simp only [attr_Without.l0] at H
   by_cases c3 : x10_1 < (l0.length : Int)
   ·
    rw [if_pos c3] at H
    have c3b0 : decide (x10_1 < (l0.length : Int)) = true := decide_eq_true c3
    clear c3
    by_cases c4 : 0 ≤ x10_1
    ·
     rw [if_pos c4] at H
     have c4b0 : decide (0 ≤ x10_1) = true := decide_eq_true c4
     clear c4
     by_cases c5 : x10_1 < (l0.length : Int)
     ·
      rw [if_pos c5] at H
      have c5b0 : decide (x10_1 < (l0.length : Int)) = true := decide_eq_true c5
      clear c5
      replace H := Option.bind_eq_some_iff.mp H
      obtain ⟨t492, A60, H⟩ := H
      replace H : (if t492 = true then (attr_Without.l0 k1 l1 x5_1 l0 (l0.length : Int) (wrap64 (x10_1 + 1))) else (if x5_1.length < 4398046511104 then (attr_Without.l0 k1 l1 (x5_1 ++ [(⟨(rd_T62 l0 x10_1).f0, (rd_T62 l0 x10_1).f1⟩ : S62)]) l0 (l0.length : Int) (wrap64 (x10_1 + 1))) else (none))) = some r := H
      have A6 := Aside0.mk A60
      clear A60
      by_cases c7 : t492 = true
      ·
       subst c7
       have H1 : (attr_Without.l0 k1 l1 x5_1 l0 (l0.length : Int) (wrap64 (x10_1 + 1))) = some r := by rw [if_pos rfl] at H; exact H
       clear H
       have H := H1
       clear H1
       have H' := Aside0.mk H
       clear H
       have p490 : 0 ≤ (x10_1 : Int) := of_decide_eq_true (by first | (with_reducible assumption) | assumption)
       have q490 : x10_1 < (l0.length : Int) := of_decide_eq_true (by first | (with_reducible assumption) | assumption)
       obtain ⟨ad490, e490, hx490_0, hx490_1⟩ := at_T62 HR0.out x10_1 p490 q490
       cases e490
       replace hx490_0 := (HB.out.cell (World.block_lt_of_cell? w _ hx490_0)).trans hx490_0
       replace hx490_1 := (HB.out.cell (World.block_lt_of_cell? w _ hx490_1)).trans hx490_1
       replace p490 := eq_true p490
       replace q490 := eq_true q490
       go_wp2_with (first | ((with_reducible refine gate_dst (N := 7) rfl ?_); refine box_event ?hg (N := 7) ?hd (cs := #[.string (⟨#[]⟩ : ByteArray), .string (⟨#[]⟩ : ByteArray)]) (t := 62) ?hr ?_; (case hd => rfl); (case hg => rfl); (case hr => first | (go_simp; done) | (go_simp; rfl)); intro gb491 hg w8 hbox hb; have n0_ := Aside0.mk (Kd.R_below (Kd.R_elderB (by (with_reducible repeat (first | apply Kd.R_alloc | apply Kd.R_drewN | apply Kd.R_drew)); exact HO_5.out) gb491 (Nat.le_of_eq hg.symm)) hb); have n1_ := Aside0.mk (below_step (by repeat (first | (with_reducible first | exact HB.out | apply below_alloc | apply pw_below_drewN | apply below_drew1) | exact HB.out)) hb); have n2_ := Aside0.mk (hbox); have n3_ := Aside0.mk ((by rw [hg]; exact (below_size (by repeat (first | (with_reducible first | exact HB.out | apply below_alloc | apply pw_below_drewN | apply below_drew1) | exact HB.out))) : w.heap.size ≤ gb491)); have n4_ := Aside0.mk ((by rw [hg]; exact (below_size (by repeat (first | (with_reducible first | exact HB.out | apply below_alloc | apply pw_below_drewN | apply below_drew1) | exact HB.out))) : w.heap.size ≤ gb491)); clear HO_5; clear HB; have HO_5 := n0_; have HB := n1_; have BK491 := n2_; have GW491 := n3_; have GE491 := n4_; clear n0_ n1_ n2_ n3_ n4_; clear hb hbox hg; have hcz9_0 : w8.cell? ⟨gb491, 0, none⟩ = some (.string (⟨#[]⟩ : ByteArray)) := (blk_cell BK491.out 0).trans rfl; have hcz9_1 : w8.cell? ⟨gb491, 1, none⟩ = some (.string (⟨#[]⟩ : ByteArray)) := (blk_cell BK491.out 1).trans rfl; have hfz9_0 := blk_frozen BK491.out 0; have hfz9_1 := blk_frozen BK491.out 1) | ((with_reducible refine gate_callee (f := 89) rfl ?_); refine goesL_ (some 17) rfl rfl Tryz.func89 (by kernel_rfl) rfl #[.slice A1 l1.length c1, .string ((rd_T62 l0 x10_1).f0)] rfl (by (try simp only [List.map_toArray, List.map_cons, List.map_nil]); first | done | rfl | (simp only [List.length_drop, List.length_take]; rfl)) ?_; (with_reducible refine (slices_Contains_string_string.calls k1 _ _ l1 ((rd_T62 l0 x10_1).f0) true _ ?side1 ?side2 A6.out).mono ?_); (case side1 => exact Kd.C_below HR1.out (by repeat (first | (with_reducible first | exact HB.out | apply below_alloc | apply pw_below_drewN | apply below_drew1 | refine below_set ?_ GE491.out) | exact HB.out))); (case side2 => exact HC1.out); rintro e w' ⟨rfl, ⟨nd, rfl⟩⟩; refine ⟨_, rfl, ?_⟩))
       go_roundg k1
       case measure => have := HK1.out; omega
       case rel => exact ⟨(x5_1), (wrap64 (x10_1 + 1)), (by first | rfl | (simp; done) | (simp [*]; done)), H', ⟨by have := HK1.out; omega⟩, ⟨by (with_reducible repeat (first | apply Kd.R_alloc | apply Kd.R_drewN | apply Kd.R_drew)); exact Kd.R_mono (Kd.R_far (p := ⟨gb491, 1, none⟩) (Kd.R_far (p := ⟨gb491, 0, none⟩) (Kd.R_mono HO_5.out (fun k_ hk => (⟨hk, hk.2⟩ : _ ∧ k_ ≠ gb491))) (fun _ hk => hk.2) (.string ((rd_T62 l0 x10_1).f0))) (fun _ hk => hk.2) (.string ((rd_T62 l0 x10_1).f1))) (fun _ hk => trivial)⟩, ⟨by repeat (first | (with_reducible first | exact HB.out | apply below_alloc | apply pw_below_drewN | apply below_drew1 | refine below_set ?_ GE491.out) | exact HB.out)⟩⟩
      ·
       replace c7 := Bool.eq_false_iff.mpr c7
       subst c7
       have H1 : (if x5_1.length < 4398046511104 then (attr_Without.l0 k1 l1 (x5_1 ++ [(⟨(rd_T62 l0 x10_1).f0, (rd_T62 l0 x10_1).f1⟩ : S62)]) l0 (l0.length : Int) (wrap64 (x10_1 + 1))) else (none)) = some r := by rw [if_neg (show ¬ (false = true) by decide)] at H; exact H
       clear H
       have H := H1
       clear H1
       by_cases c10 : x5_1.length < 4398046511104
       ·
        rw [if_pos c10] at H
        have LMc10 := Aside0.mk c10
        clear c10
        obtain ⟨y493, hy493⟩ : ∃ y_ : List (S62), y_ = (x5_1 ++ [(⟨(rd_T62 l0 x10_1).f0, (rd_T62 l0 x10_1).f1⟩ : S62)]) := ⟨_, rfl⟩
        replace H : (attr_Without.l0 k1 l1 y493 l0 (l0.length : Int) (wrap64 (x10_1 + 1))) = some r := by first | (rw [hy493]; with_reducible exact H) | (have H2_ := (Option.bind_some _ _).symm.trans H; rw [hy493]; with_reducible exact H2_) | (have H2_ := (Option.bind_some _ _).symm.trans H; with_reducible exact H2_) | with_reducible exact H | (rw [hy493]; exact H) | exact H
        have Ny493 := Aside0.mk hy493
        clear hy493
        have H' := Aside0.mk H
        clear H
        have p490 : 0 ≤ (x10_1 : Int) := of_decide_eq_true (by first | (with_reducible assumption) | assumption)
        have q490 : x10_1 < (l0.length : Int) := of_decide_eq_true (by first | (with_reducible assumption) | assumption)
        obtain ⟨ad490, e490, hx490_0, hx490_1⟩ := at_T62 HR0.out x10_1 p490 q490
        cases e490
        replace hx490_0 := (HB.out.cell (World.block_lt_of_cell? w _ hx490_0)).trans hx490_0
        replace hx490_1 := (HB.out.cell (World.block_lt_of_cell? w _ hx490_1)).trans hx490_1
        replace p490 := eq_true p490
        replace q490 := eq_true q490
        go_wp2_with (first | ((with_reducible refine gate_dst (N := 7) rfl ?_); refine box_event ?hg (N := 7) ?hd (cs := #[.string (⟨#[]⟩ : ByteArray), .string (⟨#[]⟩ : ByteArray)]) (t := 62) ?hr ?_; (case hd => rfl); (case hg => rfl); (case hr => first | (go_simp; done) | (go_simp; rfl)); intro gb491 hg w11 hbox hb; have n0_ := Aside0.mk (Kd.R_below (Kd.R_elderB (by (with_reducible repeat (first | apply Kd.R_alloc | apply Kd.R_drewN | apply Kd.R_drew)); exact HO_5.out) gb491 (Nat.le_of_eq hg.symm)) hb); have n1_ := Aside0.mk (below_step (by repeat (first | (with_reducible first | exact HB.out | apply below_alloc | apply pw_below_drewN | apply below_drew1) | exact HB.out)) hb); have n2_ := Aside0.mk (hbox); have n3_ := Aside0.mk ((by rw [hg]; exact (below_size (by repeat (first | (with_reducible first | exact HB.out | apply below_alloc | apply pw_below_drewN | apply below_drew1) | exact HB.out))) : w.heap.size ≤ gb491)); have n4_ := Aside0.mk ((by rw [hg]; exact (below_size (by repeat (first | (with_reducible first | exact HB.out | apply below_alloc | apply pw_below_drewN | apply below_drew1) | exact HB.out))) : w.heap.size ≤ gb491)); clear HO_5; clear HB; have HO_5 := n0_; have HB := n1_; have BK491 := n2_; have GW491 := n3_; have GE491 := n4_; clear n0_ n1_ n2_ n3_ n4_; clear hb hbox hg; have hcz12_0 : w11.cell? ⟨gb491, 0, none⟩ = some (.string (⟨#[]⟩ : ByteArray)) := (blk_cell BK491.out 0).trans rfl; have hcz12_1 : w11.cell? ⟨gb491, 1, none⟩ = some (.string (⟨#[]⟩ : ByteArray)) := (blk_cell BK491.out 1).trans rfl; have hfz12_0 := blk_frozen BK491.out 0; have hfz12_1 := blk_frozen BK491.out 1) | ((with_reducible refine gate_callee (f := 89) rfl ?_); refine goesL_ (some 17) rfl rfl Tryz.func89 (by kernel_rfl) rfl #[.slice A1 l1.length c1, .string ((rd_T62 l0 x10_1).f0)] rfl (by (try simp only [List.map_toArray, List.map_cons, List.map_nil]); first | done | rfl | (simp only [List.length_drop, List.length_take]; rfl)) ?_; (with_reducible refine (slices_Contains_string_string.calls k1 _ _ l1 ((rd_T62 l0 x10_1).f0) false _ ?side1 ?side2 A6.out).mono ?_); (case side1 => exact Kd.C_below HR1.out (by repeat (first | (with_reducible first | exact HB.out | apply below_alloc | apply pw_below_drewN | apply below_drew1 | refine below_set ?_ GE491.out) | exact HB.out))); (case side2 => exact HC1.out); rintro e w' ⟨rfl, ⟨nd, rfl⟩⟩; refine ⟨_, rfl, ?_⟩) | ((with_reducible refine gate_builtin (b := .append) (xs := #[.tmp 19, .tmp 21]) rfl ?_); at_builtin; refine Kd.R_append k62 (w0 := w) w.heap.size rfl (.tmp 19) (.tmp 21) 48 62 (.agg #[(.string ⟨#[]⟩), (.string ⟨#[]⟩)]) 32 rfl Tryz.underlying48 info62 rfl (by decide) (by omega) u5 x5_1 (⟨(rd_T62 l0 x10_1).f0, (rd_T62 l0 x10_1).f1⟩ : S62) [.string ((rd_T62 l0 x10_1).f0), .string ((rd_T62 l0 x10_1).f1)] (fun k_ => k_ ≠ gb491) (fun _ => False) rfl (by first | (go_simp; done) | (go_simp; rfl)) ?aP (fun _ hk => hk.elim) ?aF ?aO ?aB ?aS ?aL ?_; (case aP => exact k62_mkM _ _ _ (⟨(rd_T62 l0 x10_1).f0, (rd_T62 l0 x10_1).f1⟩ : S62)); (case aB => exact (by repeat (first | (with_reducible first | exact HB.out | apply below_alloc | apply pw_below_drewN | apply below_drew1 | refine below_set ?_ GE491.out) | exact HB.out))); (case aF => exact (fun k_ hk => Kd.freshB (g := gb491) (o := .cells #[.string ((rd_T62 l0 x10_1).f0), .string ((rd_T62 l0 x10_1).f1)] 62 (0, 0)) (by (with_reducible repeat (first | refine blk_drewN ?_ _ | refine blk_drew ?_ | refine blk_alloc ?_ _)); refine blk_put (cs := #[.string ((rd_T62 l0 x10_1).f0), .string (⟨#[]⟩ : ByteArray)]) ?_ 1 _ rfl; (with_reducible repeat (first | refine blk_drewN ?_ _ | refine blk_drew ?_ | refine blk_alloc ?_ _)); refine blk_put (cs := #[.string (⟨#[]⟩ : ByteArray), .string (⟨#[]⟩ : ByteArray)]) ?_ 0 _ rfl; (with_reducible repeat (first | refine blk_drewN ?_ _ | refine blk_drew ?_ | refine blk_alloc ?_ _)); exact BK491.out) k_ hk)); (case aO => exact (by (with_reducible repeat (first | apply Kd.R_alloc | apply Kd.R_drewN | apply Kd.R_drew)); exact Kd.R_mono (Kd.R_far (p := ⟨gb491, 1, none⟩) (Kd.R_far (p := ⟨gb491, 0, none⟩) (Kd.R_mono HO_5.out (fun k_ hk => (⟨hk, hk.2⟩ : _ ∧ k_ ≠ gb491))) (fun _ hk => hk.2) (.string ((rd_T62 l0 x10_1).f0))) (fun _ hk => hk.2) (.string ((rd_T62 l0 x10_1).f1))) (fun _ hk => hk.1.2))); (case aS => exact (below_size (by repeat (first | (with_reducible first | exact HB.out | apply below_alloc | apply pw_below_drewN | apply below_drew1 | refine below_set ?_ GE491.out) | exact HB.out)))); (case aL => have := LMc10.out; omega); intro v494 w13 ho hb hg hat; rw [← Ny493.out] at ho; have n0_ := Aside0.mk (blk_grown (g := gb491) (o := .cells #[.string ((rd_T62 l0 x10_1).f0), .string ((rd_T62 l0 x10_1).f1)] 62 (0, 0)) (by (with_reducible repeat (first | refine blk_drewN ?_ _ | refine blk_drew ?_ | refine blk_alloc ?_ _)); refine blk_put (cs := #[.string ((rd_T62 l0 x10_1).f0), .string (⟨#[]⟩ : ByteArray)]) ?_ 1 _ rfl; (with_reducible repeat (first | refine blk_drewN ?_ _ | refine blk_drew ?_ | refine blk_alloc ?_ _)); refine blk_put (cs := #[.string (⟨#[]⟩ : ByteArray), .string (⟨#[]⟩ : ByteArray)]) ?_ 0 _ rfl; (with_reducible repeat (first | refine blk_drewN ?_ _ | refine blk_drew ?_ | refine blk_alloc ?_ _)); exact BK491.out) hg (Kd.R_away HO_5.out (fun _ hk => hk.2))); have n1_ := Aside0.mk (hb); have n2_ := Aside0.mk (ho); clear BK491; clear HB; clear HO_5; have BK491 := n0_; have HB := n1_; have HO495 := n2_; clear n0_ n1_ n2_; clear ho hb hg hat))
        go_roundg k1
        case measure => have := HK1.out; omega
        case rel => exact ⟨(y493), (wrap64 (x10_1 + 1)), (by first | rfl | (simp; done) | (simp [*]; done)), H', ⟨by have := HK1.out; omega⟩, ⟨by (with_reducible repeat (first | apply Kd.R_alloc | apply Kd.R_drewN | apply Kd.R_drew)); exact Kd.R_mono HO495.out (fun _ hk => trivial)⟩, ⟨by repeat (first | (with_reducible first | exact HB.out | apply below_alloc | apply pw_below_drewN | apply below_drew1 | refine below_set ?_ GE491.out) | exact HB.out)⟩⟩
       ·
        rw [if_neg c10] at H
        exact absurd H (by simp)
     ·
      rw [if_neg c5] at H
      exact absurd H (by simp)
    ·
     rw [if_neg c4] at H
     exact absurd H (by simp)
   ·
    rw [if_neg c3] at H
    have c3b0 : decide (x10_1 < (l0.length : Int)) = false := decide_eq_false c3
    clear c3
    obtain rfl := Option.some.inj H
    go_wp2
    go_ret
    exact ⟨_, by first | rfl | (simp [errW_none, errW_some] <;> rfl) | (simp [*, errW_none, errW_some] <;> rfl), by (with_reducible repeat (first | apply Kd.R_alloc | apply Kd.R_drewN | apply Kd.R_drew)); exact HO_5.out, by repeat (first | (with_reducible first | exact HB.out | apply below_alloc | apply pw_below_drewN | apply below_drew1) | exact HB.out)⟩
end Go.Proofs.YtkedidjjhhjdbaaGreatDoor.Pr
end
section
namespace Go.Proofs.YtkedidjjhhjdbaaGreatDoor.Pr
open Go.RowKit Go.Proofs.YtkedidjjhhjdbaaGreatDoorW.PrintWords Go.Proofs.YtkedidjjhhjdbaaGreatDoorW.PrintLast Go.Proofs.YtkedidjjhhjdbaaGreatDoorW.PrintMore
attribute [local go_sem] max2_int min2_int max_two min_two max_three min_three max_four min_four strGtr strLeq strGeq
set_option linter.unusedVariables false
set_option linter.unusedSimpArgs false
attribute [local go_sem high] eqA62
def belfryref04_Same.l0 : Nat → List (S62) → List (S62) → Int → Option (Bool)
  | 0, _, _, _ => none
  | k + 1, x0, x1, x5 => if x5 < (x0.length : Int) then (if 0 ≤ x5 then (if x5 < (x1.length : Int) then (if (!((((rd_T62 x0 x5).f0).toList) == (((rd_T62 x1 x5).f0).toList)) || (!((((rd_T62 x0 x5).f1).toList) == (((rd_T62 x1 x5).f1).toList)))) = true then (some false) else (belfryref04_Same.l0 k x0 x1 (wrap64 (x5 + 1)))) else (none)) else (none)) else (some true)
def belfryref04_Same.f (k : Nat) (l0 : List (S62)) (l1 : List (S62)) : Option (Bool) := if (l0.length : Int) = (l1.length : Int) then (belfryref04_Same.l0 k l0 l1 0) else (some false)
set_option maxHeartbeats 8000000 in
set_option maxRecDepth 100000 in
theorem belfryref04_Same.calls (k : Nat) (A0 : Option Addr) (c0 : Nat) (l0 : List (S62)) (A1 : Option Addr) (c1 : Nat) (l1 : List (S62)) (r : Bool) (w : World) (hr0 : Kd.C k62 w A0 l0.length l0) (hc0 : l0.length ≤ c0) (hr1 : Kd.C k62 w A1 l1.length l1) (hc1 : l1.length ≤ c1) (h : belfryref04_Same.f k l0 l1 = some r) :
  Calls Tryz.prog 59 #[.slice A0 l0.length c0, .slice A1 l1.length c1] w fun e w' => e = .returned (.bool r) ∧ Drawn0 w w' := by
 have hu62 := Tryz.underlying62
 have HR0 := Aside0.mk hr0
 have HC0 := Aside0.mk hc0
 clear hr0 hc0
 have HR1 := Aside0.mk hr1
 have HC1 := Aside0.mk hc1
 clear hr1 hc1
 have H : (if (l0.length : Int) = (l1.length : Int) then (belfryref04_Same.l0 k l0 l1 0) else (some false)) = some r := h
 clear h
 by_cases c3 : (l0.length : Int) = (l1.length : Int)
 ·
  rw [if_pos c3] at H
  have c3b0 : ((l0.length : Int) == (l1.length : Int)) = true := beq_iff_eq.mpr c3
  have c3b1 : ((l0.length : Int) != (l1.length : Int)) = false := bne_eq_false_iff_eq.mpr c3
  have c3b2 : (l0.length == l1.length) = true := by first | simpa using c3 | (simp at c3 ⊢; omega)
  clear c3
  have H' := Aside0.mk H
  clear H
  go_enter Tryz.func59, Tryz.ntmps59
  go_wp2
  repeat (go_quiet (fail); try go_wp2)
  go_loopg [5] k (fun kq v5 w' => ∃ (x5_1 : Int), v5 = .int .i64 x5_1 ∧ Aside0 (belfryref04_Same.l0 kq l0 l1 x5_1 = some r) ∧ Aside0 (kq ≤ k) ∧ Drawn0 w w')
  case atStart => exact ⟨(0), (by first | rfl | (simp; done) | (simp [*]; done)), H', ⟨Nat.le_refl _⟩, by repeat (first | exact Drawn0.refl _ | apply Drawn0.step)⟩
  case round =>
   clear H'
   try clear c1
   try clear p2
   try clear c3
   try clear c3b0
   try clear c3b1
   try clear c3b2
   obtain ⟨x5_1, rfl, HA, HK1, ⟨m1, rfl⟩⟩ := hrel
   cases gk with
   | zero => exact absurd HA.out (by simp [belfryref04_Same.l0])
   | succ k1 =>
    have H := HA.out
    clear HA
    simp only [belfryref04_Same.l0] at H
    by_cases c4 : x5_1 < (l0.length : Int)
    ·
     rw [if_pos c4] at H
     have c4b0 : decide (x5_1 < (l0.length : Int)) = true := decide_eq_true c4
     clear c4
     by_cases c5 : 0 ≤ x5_1
     ·
      rw [if_pos c5] at H
      have c5b0 : decide (0 ≤ x5_1) = true := decide_eq_true c5
      clear c5
      by_cases c6 : x5_1 < (l1.length : Int)
      ·
       rw [if_pos c6] at H
       have c6b0 : decide (x5_1 < (l1.length : Int)) = true := decide_eq_true c6
       clear c6
       by_cases c7 : (!((((rd_T62 l0 x5_1).f0).toList) == (((rd_T62 l1 x5_1).f0).toList)) || (!((((rd_T62 l0 x5_1).f1).toList) == (((rd_T62 l1 x5_1).f1).toList)))) = true
       ·
        rw [if_pos c7] at H
        have c7b0 : (!((((rd_T62 l0 x5_1).f0).toList) == (((rd_T62 l1 x5_1).f0).toList)) || (!((((rd_T62 l0 x5_1).f1).toList) == (((rd_T62 l1 x5_1).f1).toList)))) = true := c7
        clear c7
        obtain rfl := Option.some.inj H
        have p512 : 0 ≤ (x5_1 : Int) := of_decide_eq_true (by first | (with_reducible assumption) | assumption)
        have q512 : x5_1 < (l0.length : Int) := of_decide_eq_true (by first | (with_reducible assumption) | assumption)
        obtain ⟨ad512, e512, hx512_0, hx512_1⟩ := at_T62 HR0.out x5_1 p512 q512
        cases e512
        replace p512 := eq_true p512
        replace q512 := eq_true q512
        have p513 : 0 ≤ (x5_1 : Int) := of_decide_eq_true (by first | (with_reducible assumption) | assumption)
        have q513 : x5_1 < (l1.length : Int) := of_decide_eq_true (by first | (with_reducible assumption) | assumption)
        obtain ⟨ad513, e513, hx513_0, hx513_1⟩ := at_T62 HR1.out x5_1 p513 q513
        cases e513
        replace p513 := eq_true p513
        replace q513 := eq_true q513
        go_wp2
        repeat (go_quiet (fail); try go_wp2)
        go_ret
        exact ⟨by first | rfl | (simp; done) | (simp [*]; done), by repeat (first | exact Drawn0.refl _ | apply Drawn0.step)⟩
       ·
        rw [if_neg c7] at H
        have c7b0 : (!((((rd_T62 l0 x5_1).f0).toList) == (((rd_T62 l1 x5_1).f0).toList)) || (!((((rd_T62 l0 x5_1).f1).toList) == (((rd_T62 l1 x5_1).f1).toList)))) = false := by simpa using c7
        clear c7
        have H' := Aside0.mk H
        clear H
        have p512 : 0 ≤ (x5_1 : Int) := of_decide_eq_true (by first | (with_reducible assumption) | assumption)
        have q512 : x5_1 < (l0.length : Int) := of_decide_eq_true (by first | (with_reducible assumption) | assumption)
        obtain ⟨ad512, e512, hx512_0, hx512_1⟩ := at_T62 HR0.out x5_1 p512 q512
        cases e512
        replace p512 := eq_true p512
        replace q512 := eq_true q512
        have p513 : 0 ≤ (x5_1 : Int) := of_decide_eq_true (by first | (with_reducible assumption) | assumption)
        have q513 : x5_1 < (l1.length : Int) := of_decide_eq_true (by first | (with_reducible assumption) | assumption)
        obtain ⟨ad513, e513, hx513_0, hx513_1⟩ := at_T62 HR1.out x5_1 p513 q513
        cases e513
        replace p513 := eq_true p513
        replace q513 := eq_true q513
        go_wp2
        repeat (go_quiet (fail); try go_wp2)
        go_roundg k1
        case measure => have := HK1.out; omega
        case rel => exact ⟨(wrap64 (x5_1 + 1)), (by first | rfl | (simp; done) | (simp [*]; done)), H', ⟨by have := HK1.out; omega⟩, by repeat (first | exact Drawn0.refl _ | apply Drawn0.step)⟩
      ·
       rw [if_neg c6] at H
       exact absurd H (by simp)
     ·
      rw [if_neg c5] at H
      exact absurd H (by simp)
    ·
     rw [if_neg c4] at H
     have c4b0 : decide (x5_1 < (l0.length : Int)) = false := decide_eq_false c4
     clear c4
     obtain rfl := Option.some.inj H
     go_wp2
     repeat (go_quiet (fail); try go_wp2)
     go_ret
     exact ⟨by first | rfl | (simp; done) | (simp [*]; done), by repeat (first | exact Drawn0.refl _ | apply Drawn0.step)⟩
 ·
  rw [if_neg c3] at H
  have c3b0 : ((l0.length : Int) == (l1.length : Int)) = false := beq_eq_false_iff_ne.mpr c3
  have c3b1 : ((l0.length : Int) != (l1.length : Int)) = true := bne_iff_ne.mpr c3
  have c3b2 : (l0.length == l1.length) = false := by first | simpa using c3 | (simp at c3 ⊢; omega)
  obtain rfl := Option.some.inj H
  go_enter Tryz.func59, Tryz.ntmps59
  go_wp2
  repeat (go_quiet (fail); try go_wp2)
  go_ret
  exact ⟨by first | rfl | (simp; done) | (simp [*]; done), by repeat (first | exact Drawn0.refl _ | apply Drawn0.step)⟩
end Go.Proofs.YtkedidjjhhjdbaaGreatDoor.Pr
end
section
set_option linter.unusedVariables false
set_option linter.unusedSimpArgs false
namespace Go.Proofs.YtkedidjjhhjdbaaGreatDoor.Pr
open Go.RowKit Go.Proofs.YtkedidjjhhjdbaaGreatDoorW.PrintWords Go.Proofs.YtkedidjjhhjdbaaGreatDoorW.PrintLast Go.Proofs.YtkedidjjhhjdbaaGreatDoorW.PrintMore
abbrev keyL (x : S62) : List UInt8 := x.f0.data.toList
theorem rd_at (l : List S62) (i : Nat) (h : i < l.length) : rd_T62 l (i : Int) = l[i] := by simp [rd_T62, h]
theorem drop_cons (l : List S62) (i : Nat) (h : i < l.length) : l.drop i = l[i] :: l.drop (i + 1) := List.drop_eq_getElem_cons h
def getL (key : ByteArray) : List S62 → ByteArray × Bool
  | [] => (⟨#[]⟩, false)
  | x :: l => if keyL x = key.data.toList then (x.f1, true) else getL key l
theorem get_l0 (key : ByteArray) (l : List S62) (hl : l.length < 4398046511104) : ∀ (n i : Nat), i + n = l.length → ∀ k, n < k → attr_Get.l0 k key l (l.length : Int) (i : Int) = some (getL key (l.drop i))
 | _, _, _, 0, hk => absurd hk (by omega)
 | 0, i, hn, k + 1, hk => by
  rw [attr_Get.l0, if_neg (by omega), List.drop_of_length_le (show l.length ≤ i by omega)]; rfl
 | n + 1, i, hn, k + 1, hk => by
  have hi : i < l.length := by omega
  rw [attr_Get.l0, if_pos (by omega), if_pos (by omega), if_pos (by omega), rd_at l i hi, drop_cons l i hi, getL, wrap_small (n := (i : Int) + 1) (by omega) (by omega), show (i : Int) + 1 = ((i + 1 : Nat) : Int) by omega, get_l0 key l hl n (i + 1) (by omega) k (by omega)]
  simp only [Lib.toList_data]
  by_cases h : keyL l[i] = key.data.toList
  ·
   rw [if_pos h, if_pos h]
  ·
   rw [if_neg h, if_neg h]
theorem get_ev (key : ByteArray) (l : List S62) (hl : l.length < 4398046511104) : Ev (fun k => attr_Get.f k l key) (getL key l) := by
 refine ⟨l.length + 1, fun k hk => ?_⟩
 have := get_l0 key l hl l.length 0 (by omega) k (by omega)
 exact this
def hasL : List UInt8 → List UInt8 → Bool
  | [], p => p.isEmpty
  | b :: l, p => p.isPrefixOf (b :: l) || hasL l p
theorem contains_hasL (s p : List UInt8) : Lib.contains s p = hasL s p := by
 unfold Lib.contains
 induction s with
 | nil => unfold Lib.index hasL; cases p <;> rfl
 | cons b l ih =>
  unfold Lib.index hasL
  rw [← ih]
  by_cases h : p.isPrefixOf (b :: l) = true
  ·
   rw [if_pos h, h]; rfl
  ·
   rw [if_neg h, Bool.eq_false_iff.2 h, Bool.false_or]
   have := Lib.index_ge l p
   by_cases h1 : (Lib.index l p == -1) = true
   ·
    rw [if_pos h1, beq_iff_eq.1 h1]
   ·
    rw [if_neg h1]
    have h1' : Lib.index l p ≠ -1 := fun e => h1 (beq_iff_eq.2 e)
    rw [decide_eq_true (by omega), decide_eq_true (by omega)]
def holdB (x : S33) (v : ByteArray) : Bool :=
  if x.f0 = 1 then v.data.toList == x.f2.data.toList else if x.f0 = 2 then v.data.toList != x.f2.data.toList else if x.f0 = 3 then hasL v.data.toList x.f2.data.toList else if x.f0 = 4 then !hasL v.data.toList x.f2.data.toList else false
def fitsL (l : List S62) (m : List S33) : Bool := m.all fun x => holdB x (getL x.f1 l).1
def smallA (l : List S62) : Prop := ∀ x ∈ l, x.f1.size < 4294967281
def smallM (m : List S33) : Prop := m.length ≤ 1048576 ∧ ∀ x ∈ m, x.f2.size ≤ 4611686018427387904
theorem getL_small {l : List S62} (h : smallA l) (key : ByteArray) : (getL key l).1.size < 4294967281 := by
 induction l with
 | nil => show (0 : Nat) < _; omega
 | cons x l ih =>
  rw [getL]
  split
  ·
   exact h x (List.mem_cons_self ..)
  ·
   exact ih fun y hy => h y (List.mem_cons_of_mem _ hy)
theorem rd_at54 (l : List S33) (i : Nat) (h : i < l.length) : rd_T33 l (i : Int) = l[i] := by simp [rd_T33, h]
theorem drop_cons54 (l : List S33) (i : Nat) (h : i < l.length) : l.drop i = l[i] :: l.drop (i + 1) := List.drop_eq_getElem_cons h
theorem fits_l0 (l : List S62) (hl : l.length < 4398046511104) (hs : smallA l) (m : List S33) (hm : smallM m) : ∀ (n i : Nat), i + n = m.length → Ev (fun k => attr_Fits.l0 k l m (m.length : Int) (i : Int)) (fitsL l (m.drop i))
 | 0, i, hn => by
  refine ⟨1, fun k hk => ?_⟩
  obtain ⟨k, rfl⟩ : ∃ j, k = j + 1 := ⟨k - 1, by omega⟩
  dsimp only
  rw [attr_Fits.l0, if_neg (by omega), List.drop_of_length_le (show m.length ≤ i by omega)]; rfl
 | n + 1, i, hn => by
  have hi : i < m.length := by omega
  have ih := fits_l0 l hl hs m hm n (i + 1) (by omega)
  have hml := hm.1
  have hsz := getL_small hs m[i].f1
  refine Ev.succ (g := fun k => (attr_Get.f k l (m[i].f1)).bind fun bt414 => (if m[i].f0 = 1 then (if (bt414.1.toList = (m[i].f2).toList) then (attr_Fits.l0 k l m (m.length : Int) ((i + 1 : Nat) : Int)) else (some false)) else (if m[i].f0 = 2 then (if bt414.1.toList = (m[i].f2).toList then (some false) else (attr_Fits.l0 k l m (m.length : Int) ((i + 1 : Nat) : Int))) else (if m[i].f0 = 3 then ((strings_Contains.f bt414.1 (m[i].f2)).bind fun t416 => (if t416 = true then (attr_Fits.l0 k l m (m.length : Int) ((i + 1 : Nat) : Int)) else (some false))) else (if m[i].f0 = 4 then ((strings_Contains.f bt414.1 (m[i].f2)).bind fun t417 => (if t417 = true then (some false) else (attr_Fits.l0 k l m (m.length : Int) ((i + 1 : Nat) : Int)))) else (some false)))))) ?_ (fun k => by
   rw [attr_Fits.l0, if_pos (by omega), if_pos (by omega), if_pos (by omega), rd_at54 m i hi, wrap_small (n := (i : Int) + 1) (by omega) (by omega), show (i : Int) + 1 = ((i + 1 : Nat) : Int) by omega])
  refine Ev.bind (get_ev m[i].f1 l hl) ?_
  rw [drop_cons54 m i hi]
  unfold fitsL
  rw [List.all_cons]
  change Ev _ (holdB m[i] (getL m[i].f1 l).1 && fitsL l (m.drop (i + 1)))
  unfold strings_Contains.f holdB
  simp only [if_pos hsz, contains_hasL, Lib.toList_data, Option.bind_some]
  by_cases h1 : m[i].f0 = 1
  ·
   simp only [if_pos h1]
   by_cases he : (getL m[i].f1 l).1.data.toList = m[i].f2.data.toList
   ·
    simp only [if_pos he, beq_iff_eq.2 he, Bool.true_and]; exact ih
   ·
    simp only [if_neg he, beq_eq_false_iff_ne.2 he, Bool.false_and]; exact Ev.const rfl
  ·
   simp only [if_neg h1]
   by_cases h2 : m[i].f0 = 2
   ·
    simp only [if_pos h2]
    by_cases he : (getL m[i].f1 l).1.data.toList = m[i].f2.data.toList
    ·
     simp only [if_pos he, bne_eq_false_iff_eq.2 he, Bool.false_and]; exact Ev.const rfl
    ·
     simp only [if_neg he, bne_iff_ne.2 he, Bool.true_and]; exact ih
   ·
    simp only [if_neg h2]
    by_cases h3 : m[i].f0 = 3
    ·
     simp only [if_pos h3]
     cases hasL (getL m[i].f1 l).1.data.toList m[i].f2.data.toList with
     | true => simp only [if_true, Bool.true_and]; exact ih
     | false => simp only [Bool.false_eq_true, if_false, Bool.false_and]; exact Ev.const rfl
    ·
     simp only [if_neg h3]
     by_cases h4 : m[i].f0 = 4
     ·
      simp only [if_pos h4]
      cases hasL (getL m[i].f1 l).1.data.toList m[i].f2.data.toList with
      | true => simp only [if_true, Bool.not_true, Bool.false_and]; exact Ev.const rfl
      | false => simp only [Bool.false_eq_true, if_false, Bool.not_false, Bool.true_and]; exact ih
     ·
      simp only [if_neg h4, Bool.false_and]; exact Ev.const rfl
theorem fits_ev (l : List S62) (hl : l.length < 4398046511104) (hs : smallA l) (m : List S33) (hm : smallM m) : Ev (fun k => attr_Fits.f k l m) (fitsL l m) := by
 have := fits_l0 l hl hs m hm m.length 0 (by omega)
 exact this
def inB (ks : List ByteArray) (s : ByteArray) : Bool := ks.any fun a => a.data.toList == s.data.toList
theorem rdOf_atB (ks : List ByteArray) (i : Nat) (h : i < ks.length) : rdOf ByteArray.empty ks (i : Int) = ks[i] := by simp [rdOf, h]
theorem index_l0B (ks : List ByteArray) (s : ByteArray) (hks : ks.length < 4611686018427387904) : ∀ (n i : Nat), i + n = ks.length → ∃ r : Int, decide (r ≥ 0) = inB (ks.drop i) s ∧ ∀ k, n < k → slices_Index_string_string.l0 k ks s (ks.length : Int) (i : Int) = some r
 | 0, i, hn => ⟨-1, by rw [List.drop_of_length_le (show ks.length ≤ i by omega)]; rfl, fun k hk => by
  obtain ⟨k, rfl⟩ : ∃ j, k = j + 1 := ⟨k - 1, by omega⟩
  rw [slices_Index_string_string.l0, if_neg (by omega)]⟩
 | n + 1, i, hn => by
  have hi : i < ks.length := by omega
  obtain ⟨r, hr, hk'⟩ := index_l0B ks s hks n (i + 1) (by omega)
  have hd : ks.drop i = ks[i] :: ks.drop (i + 1) := List.drop_eq_getElem_cons hi
  by_cases h : s.data.toList = ks[i].data.toList
  ·
   refine ⟨i, ?_, fun k hk => ?_⟩
   ·
    rw [hd, inB, List.any_cons, h]; simp
   ·
    obtain ⟨k, rfl⟩ : ∃ j, k = j + 1 := ⟨k - 1, by omega⟩
    rw [slices_Index_string_string.l0, if_pos (by omega), if_pos (by omega), if_pos (by omega), rdOf_atB ks i hi]
    simp only [Lib.toList_data]
    rw [if_pos h]
  ·
   refine ⟨r, ?_, fun k hk => ?_⟩
   ·
    rw [hd, inB, List.any_cons, beq_eq_false_iff_ne.2 (fun e => h e.symm), Bool.false_or]; exact hr
   ·
    obtain ⟨k, rfl⟩ : ∃ j, k = j + 1 := ⟨k - 1, by omega⟩
    rw [slices_Index_string_string.l0, if_pos (by omega), if_pos (by omega), if_pos (by omega), rdOf_atB ks i hi]
    simp only [Lib.toList_data]
    rw [if_neg h, wrap_small (n := (i : Int) + 1) (by omega) (by omega)]
    exact hk' k (by omega)
theorem contains_evB (ks : List ByteArray) (s : ByteArray) (hks : ks.length < 4611686018427387904) : Ev (fun k => slices_Contains_string_string.f k ks s) (inB ks s) := by
 obtain ⟨r, hr, hk⟩ := index_l0B ks s hks ks.length 0 (by omega)
 refine ⟨ks.length + 1, fun k hk' => ?_⟩
 dsimp only
 unfold slices_Contains_string_string.f slices_Index_string_string.f
 have := hk k (by omega)
 rw [show ((0 : Nat) : Int) = 0 from rfl] at this
 rw [this, Option.bind_some, hr]
 rfl
def woK (ks : List ByteArray) (l : List S62) : List S62 := l.filter fun x => !inB ks x.f0
theorem wok_l0 (ks : List ByteArray) (hks : ks.length < 4611686018427387904) (l : List S62) (hl : l.length < 4398046511104) : ∀ (n i : Nat) (m : List S62), i + n = l.length → m.length ≤ i → Ev (fun k => attr_Without.l0 k ks m l (l.length : Int) (i : Int)) (m ++ woK ks (l.drop i))
 | 0, i, m, hn, hm => by
  refine ⟨1, fun k hk => ?_⟩
  obtain ⟨k, rfl⟩ : ∃ j, k = j + 1 := ⟨k - 1, by omega⟩
  dsimp only
  rw [attr_Without.l0, if_neg (by omega), List.drop_of_length_le (show l.length ≤ i by omega)]
  simp [woK]
 | n + 1, i, m, hn, hm => by
  have hi : i < l.length := by omega
  obtain ⟨C, hC⟩ := contains_evB ks l[i].f0 hks
  obtain ⟨K1, h1⟩ := wok_l0 ks hks l hl n (i + 1) m (by omega) (by omega)
  obtain ⟨K2, h2⟩ := wok_l0 ks hks l hl n (i + 1) (m ++ [l[i]]) (by omega) (by simp; omega)
  refine ⟨C + K1 + K2 + 1, fun k hk => ?_⟩
  obtain ⟨k, rfl⟩ : ∃ j, k = j + 1 := ⟨k - 1, by omega⟩
  have hC' := hC k (by omega)
  have h1' := h1 k (by omega)
  have h2' := h2 k (by omega)
  dsimp only at hC' h1' h2' ⊢
  rw [attr_Without.l0, if_pos (by omega), if_pos (by omega), if_pos (by omega), rd_at l i hi, hC', Option.bind_some, wrap_small (n := (i : Int) + 1) (by omega) (by omega), drop_cons l i hi]
  unfold woK
  rw [List.filter_cons]
  cases h : inB ks l[i].f0 with
  | true =>
   rw [if_pos rfl, if_neg (by simp)]
   exact h1'
  | false =>
   rw [if_neg (by simp), if_pos (by omega), if_pos (by simp)]
   refine h2'.trans ?_
   simp [woK]
theorem wok_ev (ks : List ByteArray) (hks : ks.length < 4611686018427387904) (l : List S62) (hl : l.length < 4398046511104) : Ev (fun k => attr_Without.f k l ks) (woK ks l) := by
 have := wok_l0 ks hks l hl l.length 0 [] (by omega) (Nat.le_refl _)
 exact this
theorem woK_len (ks : List ByteArray) (l : List S62) : (woK ks l).length ≤ l.length := List.length_filter_le _ _
end Go.Proofs.YtkedidjjhhjdbaaGreatDoor.Pr
end
section
set_option linter.unusedVariables false
set_option linter.unusedSimpArgs false
namespace Go.Proofs.YtkedidjjhhjdbaaGreatDoor.Pr
open Go.RowKit Go.Proofs.YtkedidjjhhjdbaaGreatDoorW.PrintWords Go.Proofs.YtkedidjjhhjdbaaGreatDoorW.PrintLast Go.Proofs.YtkedidjjhhjdbaaGreatDoorW.PrintMore
def z52 : Array Value := #[.int .i64 0, .string ⟨#[]⟩, .slice none 0 0, .int .i64 0, .int .i64 0, .int .i64 0, .int .i64 0, .string ⟨#[]⟩, .int .u8 0, .int .u8 0, .int .u8 0, .int .u8 0, .int .u8 0, .int .u8 0, .int .u8 0, .int .u8 0, .int .u8 0, .int .u8 0, .int .u8 0, .int .u8 0, .int .u8 0, .int .u8 0, .int .u8 0, .int .u8 0, .int .u8 0, .int .u8 0, .int .u8 0, .int .u8 0, .int .u8 0, .int .u8 0, .int .u8 0, .int .u8 0, .int .u8 0, .int .u8 0, .int .u8 0, .int .u8 0, .int .u8 0, .int .u8 0, .int .u8 0, .int .u8 0]
def policy_Sees.go (k : Nat) (ts : List S62) : List S31 → Option (Option (List S62))
  | [] => some none
  | x :: xs => (attr_Fits.f k ts x.f1).bind fun b => if b = true then (attr_Without.f k ts x.f2).map some else policy_Sees.go k ts xs
def Seen52 (cs : Array Value) (base : Nat) (r : Option (List S62)) (e : Ending) (w' : World) : Prop :=
  match r with
  | none => e = .returned (.tuple #[.agg z52, .bool false])
  | some ts' => ∃ v, e = .returned (.tuple #[.agg (cs.setIfInBounds 2 v), .bool true]) ∧ Kd.R k62 62 w' base (fun _ => True) v ts'
theorem below_setRow {B : Nat} {w W : World} (h : Below B w W) {g : Nat} (hg : B ≤ g) (cs : Array Value) : Below B w (W.setRow g cs) := by
 refine ⟨h.os, h.tape, h.output, by simpa [World.setRow] using h.size, fun i hi => ?_⟩
 rw [← h.block i hi]
 show (W.heap.modify g _)[i]? = _
 rw [Array.getElem?_modify, if_neg (by omega)]
theorem blk_setRow {W : World} {g t : Nat} {old cs : Array Value} (h : W.heap[g]? = some (.cells old t (0, 0))) : (W.setRow g cs).heap[g]? = some (.cells cs t (0, 0)) := setRow_heap W g old cs t (0, 0) h
theorem results_cell_tmp {P : Program} {fn : Func} {p u : Tmp} {ty : TypeId} (h : fn.results = #[.cell p ty, .tmp u]) (tmps : Array Value) (w : World) (g : Nat) (t : TypeId) (cs : Array Value) (fr : Nat × Nat) (d : TypeDesc)
  (hp : tmps.getD p undef = .pointer (some ⟨g, 0, none⟩)) (hg : w.heap[g]? = some (.cells cs t fr))
  (hu : P.underlying ty = some d) (hd : (match d with | .struct _ | .array _ _ => true | _ => false) = true) (hi : (P.info? ty).map (·.size) = some cs.size) :
  (results fn tmps).run P w = .ok (.tuple #[.agg cs, tmps.getD u undef]) w := by
 have hp' : tmps[p]?.getD undef = .pointer (some ⟨g, 0, none⟩) := by simpa using hp
 simp [results, h, hp', asAddr, run_loadVar_row w g t ty cs fr d hg hu hd hi]
theorem R_setRow {α : Type} {d : Kd α} {e : Nat} {w : World} {base : Nat} {ok : Nat → Prop} {v : Value} {xs : List α} (h : d.R e w base ok v xs) {g t : Nat} {cells : Array Value} (hb : w.heap[g]? = some (.cells cells t (0, 0))) (ht : ∀ q, q ∈ e :: d.E → q ≠ t) (cs : Array Value) : d.R e (w.setRow g cs) base ok v xs :=
 Kd.R_mono (Kd.R_step (Kd.R_types h hb ht) (fun k hk _ => by
  show (w.heap.modify g _)[k]? = _
  rw [Array.getElem?_modify, if_neg (fun e => hk.2 e.symm)])) (fun _ hk => hk.1)
set_option maxHeartbeats 8000000 in
set_option maxRecDepth 100000 in
theorem policy_Sees.calls (k : Nat) (A : Option Addr) (c : Nat) (vs : List S31) (cs : Array Value) (B : Option Addr) (cb : Nat) (ts : List S62) (r : Option (List S62)) (w : World)
  (hv : Kd.C k31 w A vs.length vs) (hvc : vs.length ≤ c) (hs : cs.size = 40) (h1 : cs.all (·.oneCell') = true) (h2 : cs[2]? = some (.slice B ts.length cb)) (ha : Kd.C k62 w B ts.length ts) (hac : ts.length ≤ cb)
  (h : policy_Sees.go k ts vs = some r) (he : EnvW w) :
  Calls Tryz.prog 25 #[.slice A vs.length c, .agg cs] w fun e w' => Seen52 cs w.heap.size r e w' ∧ Below w.heap.size w w' := by
 have hu52 := Tryz.underlying52
 have hu31 := Tryz.underlying31
 have hvm := Kd.C_max hv
 have HV := Aside0.mk hv
 have HA := Aside0.mk ha
 have H1 := Aside0.mk h1
 have HE := Aside0.mk he
 clear hv ha h1 he
 go_enter Tryz.func25, Tryz.ntmps25
 go_wp2
 have hz : Aside0 (((w.alloc (.cells cs 52)).alloc (.cells z52 52)).heap[w.heap.size]? = some (.cells cs 52 (0, 0)) ∧ ((w.alloc (.cells cs 52)).alloc (.cells z52 52)).heap[w.heap.size + 1]? = some (.cells z52 52 (0, 0)) ∧ Below w.heap.size w ((w.alloc (.cells cs 52)).alloc (.cells z52 52))) := by
  refine ⟨blk_alloc (blk_new w _) _, ?_, below_alloc (below_alloc (Below.refl _ _) _) _⟩
  have := blk_new (w.alloc (.cells cs 52)) (.cells z52 52)
  simpa using this
 have hzz := hz.out
 unfold z52 at hzz
 obtain ⟨W0, hW0⟩ : ∃ W, W = ((w.alloc (.cells cs 52)).alloc (.cells z52 52)) := ⟨_, rfl⟩
 have hW0' := hW0
 unfold z52 at hW0'
 rw [← hW0'] at ⊢
 rw [← hW0] at hz
 clear hzz hW0 hW0'
 go_loopw [10] (fun v10 ws => ∃ i : Nat, i ≤ vs.length ∧ v10 = .int .i64 i ∧ Aside0 (policy_Sees.go k ts (vs.drop i) = some r) ∧ Aside0 (ws.heap[w.heap.size]? = some (.cells cs 52 (0, 0)) ∧ ws.heap[w.heap.size + 1]? = some (.cells z52 52 (0, 0)) ∧ Below w.heap.size w ws)) (fun v10 _ => vs.length - (intOf v10).toNat)
 case atStart => exact ⟨0, Nat.zero_le _, rfl, ⟨h⟩, hz⟩
 case round =>
  clear hz h
  obtain ⟨i, hi, rfl, HH, HB⟩ := hrel
  by_cases hlt : i < vs.length
  ·
   have b2 : decide ((i : Int) < (vs.length : Int)) = true := decide_eq_true (by omega)
   have b3 : decide (i < vs.length) = true := decide_eq_true hlt
   have p0 := eq_true (show (0 : Int) ≤ (i : Int) by omega)
   have q0 := eq_true (show (i : Int) < (vs.length : Int) by omega)
   have HV2 := Aside0.mk (Kd.C_below HV.out HB.out.2.2)
   obtain ⟨ad, A1, c1, A2, c2, rfl, hx0, hx1, hx2, l1, g1, l2, g2⟩ := at_T31 HV2.out (i : Int) (by omega) (by omega)
   simp only [Int.toNat_natCast] at hx0 hx1 hx2
   have hrd : rd_T31 vs (i : Int) = vs[i] := by simp [rd_T31, List.getD_eq_getElem?_getD, List.getElem?_eq_getElem hlt]
   rw [hrd] at hx0 hx1 hx2 l1 g1 l2 g2
   obtain ⟨x, hx⟩ : ∃ x, x = vs[i] := ⟨_, rfl⟩
   rw [← hx] at hx0 hx1 hx2 l1 g1 l2 g2
   have HG1 := Aside0.mk g1
   have HG2 := Aside0.mk g2
   clear g1 g2 hrd
   have hc2 : ∀ o, (wr.alloc o).cell? ⟨w.heap.size, 2, none⟩ = some (.slice B ts.length cb) := fun o => (blk_cell (blk_alloc HB.out.1 o) 2).trans h2
   have HH2 : Aside0 ((attr_Fits.f k ts x.f1).bind (fun b => if b = true then (attr_Without.f k ts x.f2).map some else policy_Sees.go k ts (vs.drop (i + 1))) = some r) := by
    have := HH.out
    rw [List.drop_eq_getElem_cons hlt] at this
    rw [hx]
    exact ⟨this⟩
   clear HH
   obtain ⟨bf, hbf, hrest⟩ := Option.bind_eq_some_iff.mp HH2.out
   have HF := Aside0.mk hbf
   have HR := Aside0.mk hrest
   clear hbf hrest HH2 hx
   go_wp2_with fail
   refine (attr_Fits.calls k B cb ts A1 c1 x.f1 bf _ (Kd.C_alloc (Kd.C_below HA.out HB.out.2.2) _) hac (Kd.C_alloc HG1.out _) l1 HF.out (env_alloc (env_below HE.out HB.out.2.2))).mono ?_
   rintro e w1 ⟨rfl, hb1⟩
   have hB1 : Aside0 (w1.heap[w.heap.size]? = some (.cells cs 52 (0, 0)) ∧ w1.heap[w.heap.size + 1]? = some (.cells z52 52 (0, 0)) ∧ w1.heap[wr.heap.size]? = some (.cells #[.string x.f0, .slice A1 x.f1.length c1, .slice A2 x.f2.length c2] 31 (0, 0)) ∧ Below w.heap.size w w1 ∧ Kd.C Kd.string w1 A2 x.f2.length x.f2) :=
    ⟨blk_below (blk_alloc HB.out.1 _) hb1, blk_below (blk_alloc HB.out.2.1 _) hb1, blk_below (blk_new wr _) hb1, (below_alloc HB.out.2.2 _).trans (hb1.mono (below_alloc HB.out.2.2 _).size), Kd.C_below (Kd.C_alloc HG2.out _) hb1⟩
   clear hb1 hx0 hx1 hx2 hc2 HG1 HG2 HF
   have hc2 : w1.cell? ⟨w.heap.size, 2, none⟩ = some (.slice B ts.length cb) := (blk_cell hB1.out.1 2).trans h2
   have hcx : w1.cell? ⟨wr.heap.size, 2, none⟩ = some (.slice A2 x.f2.length c2) := blk_cell hB1.out.2.2.1 2
   cases bf with
   | false =>
    go_wp2
    go_roundw
    case rel => exact ⟨i + 1, hlt, by go_num, HR, ⟨hB1.out.1, hB1.out.2.1, hB1.out.2.2.2.1⟩⟩
    case measure => simp [intOf]; omega
   | true =>
    obtain ⟨ys, hys, rfl⟩ := Option.map_eq_some_iff.mp HR.out
    have HW := Aside0.mk hys
    clear HR hys
    go_wp2_with fail
    refine (attr_Without.calls k B cb ts A2 c2 x.f2 ys w1 (Kd.C_below HA.out hB1.out.2.2.2.1) hac hB1.out.2.2.2.2 l2 HW.out).mono ?_
    rintro e w2 ⟨v, rfl, hR2, hb2⟩
    obtain ⟨AV, cV, rfl⟩ := Kd.R_slice hR2
    have hB2 : Aside0 (w2.heap[w.heap.size]? = some (.cells cs 52 (0, 0)) ∧ w2.heap[w.heap.size + 1]? = some (.cells z52 52 (0, 0)) ∧ Below w.heap.size w w2) := ⟨blk_below hB1.out.1 hb2, blk_below hB1.out.2.1 hb2, hB1.out.2.2.2.1.trans (hb2.mono hB1.out.2.2.2.1.size)⟩
    have HR2 := Aside0.mk (Kd.R_lower hR2 hB1.out.2.2.2.1.size)
    clear hB1 hc2 hcx hb2 hR2 HW
    have hc2 : w2.cell? ⟨w.heap.size, 2, none⟩ = some (.slice B ts.length cb) := (blk_cell hB2.out.1 2).trans h2
    have hf2 : w2.frozen? ⟨w.heap.size, 2, none⟩ = false := blk_frozen hB2.out.1 2
    have hpa : (cs.setIfInBounds 2 (.slice AV ys.length cV)).size = 40 := by simp [hs]
    have hpb : (cs.setIfInBounds 2 (.slice AV ys.length cV)).all (·.oneCell') = true := by
     rw [Array.all_eq_true]
     intro j hj
     rw [Array.getElem_setIfInBounds (by simpa using hj)]
     split
     ·
      rfl
     ·
      exact (Array.all_eq_true.mp H1.out) j (by simpa using hj)
    have hp1 := blk_set hB2.out.1 2 (.slice AV ys.length cV)
    have hp2 : (w2.setCell ⟨w.heap.size, 2, none⟩ (.slice AV ys.length cV)).heap[w.heap.size + 1]? = some (.cells z52 52 (0, 0)) := blk_far hB2.out.2.1 (by simp) _
    have hp3 : Below w.heap.size w (w2.setCell ⟨w.heap.size, 2, none⟩ (.slice AV ys.length cV)) := hB2.out.2.2.setCell (by simp) _
    have hp4 := Kd.R_set HR2.out hB2.out.1 (by decide) 2 (.slice AV ys.length cV)
    obtain ⟨W, hW⟩ : ∃ W, W = w2.setCell ⟨w.heap.size, 2, none⟩ (.slice AV ys.length cV) := ⟨_, rfl⟩
    obtain ⟨ns, hns⟩ : ∃ ns, ns = cs.setIfInBounds 2 (.slice AV ys.length cV) := ⟨_, rfl⟩
    rw [← hns] at hpa hpb hp1
    rw [← hW] at hp1 hp2 hp3 hp4
    have HP := Aside0.mk (And.intro hp1 (And.intro hp2 (And.intro hp3 (And.intro hp4 (And.intro hpa hpb)))))
    clear hp1 hp2 hp3 hp4 hpa hpb
    rw [hns, hW] at HP
    go_wp2_with (refine wpList_load_row rfl 52 (.tmp 3) rfl w.heap.size rfl 52 (cs.setIfInBounds 2 (.slice AV ys.length cV)) (0, 0) _ HP.out.1 hu52 rfl (by rw [HP.out.2.2.2.2.1]; kernel_rfl) (Aside0.out ?_))
    refine ⟨?_⟩
    refine wpList_store_rowTo rfl 52 (.tmp 4) (.tmp 25) rfl rfl (w.heap.size + 1) (cs.setIfInBounds 2 (.slice AV ys.length cV)) rfl rfl 52 z52 HP.out.2.1 (by rw [HP.out.2.2.2.2.1]; kernel_rfl) (by rw [HP.out.2.2.2.2.1]; rfl) HP.out.2.2.2.2.2 ?_
    go_wp2
    refine bodyPost_ret (results_cell_tmp rfl _ _ (w.heap.size + 1) 52 (cs.setIfInBounds 2 (.slice AV ys.length cV)) (0, 0) _ rfl (blk_setRow HP.out.2.1) hu52 rfl (by rw [HP.out.2.2.2.2.1]; kernel_rfl)) rfl ?_
    exact ⟨⟨_, rfl, R_setRow HP.out.2.2.2.1 HP.out.2.1 (by decide) _⟩, below_setRow HP.out.2.2.1 (by omega) _⟩
  ·
   obtain rfl : i = vs.length := by omega
   have b2 : decide (((vs.length : Nat) : Int) < (vs.length : Int)) = false := decide_eq_false (by omega)
   have b3 : decide (vs.length < vs.length) = false := decide_eq_false hlt
   have hr := HH.out
   rw [List.drop_length] at hr
   obtain rfl := Option.some.inj hr
   go_wp2_with (refine Go.wpList_buildTo rfl 52 #[] rfl (some 27) rfl z52 (by kernel_rfl) (Aside0.out ?_))
   refine ⟨?_⟩
   refine wpList_store_rowTo rfl 52 (.tmp 4) (.tmp 27) rfl rfl (w.heap.size + 1) z52 rfl rfl 52 z52 HB.out.2.1 (by kernel_rfl) rfl (by kernel_rfl) ?_
   go_wp2
   refine bodyPost_ret (results_cell_tmp rfl _ _ (w.heap.size + 1) 52 z52 (0, 0) _ rfl (blk_setRow HB.out.2.1) hu52 rfl (by kernel_rfl)) rfl ?_
   exact ⟨rfl, below_setRow HB.out.2.2 (by omega) _⟩
end Go.Proofs.YtkedidjjhhjdbaaGreatDoor.Pr
end
section
set_option linter.unusedVariables false
set_option linter.unusedSimpArgs false
namespace Go.Proofs.YtkedidjjhhjdbaaGreatDoor.Pr
open Go.RowKit Go.Proofs.YtkedidjjhhjdbaaGreatDoorW.PrintWords Go.Proofs.YtkedidjjhhjdbaaGreatDoorW.PrintLast Go.Proofs.YtkedidjjhhjdbaaGreatDoorW.PrintMore
def seesR (ts : List S62) : List S31 → Option (List S62)
  | [] => none
  | x :: xs => if fitsL ts x.f1 = true then some (woK x.f2 ts) else seesR ts xs
def smallV (vs : List S31) : Prop := ∀ x ∈ vs, smallM x.f1 ∧ x.f2.length < 4611686018427387904
theorem sees_ev (ts : List S62) (hl : ts.length < 4398046511104) (hs : smallA ts) : ∀ vs : List S31, smallV vs → Ev (fun k => policy_Sees.go k ts vs) (seesR ts vs)
 | [], _ => Ev.const rfl
 | x :: xs, h => by
  have hx := h x (List.mem_cons_self ..)
  have ih := sees_ev ts hl hs xs (fun y hy => h y (List.mem_cons_of_mem _ hy))
  refine Ev.of_eq (g := fun k => (attr_Fits.f k ts x.f1).bind fun b => if b = true then (attr_Without.f k ts x.f2).map some else policy_Sees.go k ts xs) ?_ (fun k => rfl)
  refine Ev.bind (fits_ev ts hl hs x.f1 hx.1) ?_
  rw [seesR]
  cases fitsL ts x.f1 with
  | true =>
   obtain ⟨K, hK⟩ := wok_ev x.f2 hx.2 ts hl
   exact ⟨K, fun k hk => congrArg (Option.map some) (hK k hk)⟩
  | false => exact ih
theorem seesR_len (ts : List S62) : ∀ (vs : List S31) (ys : List S62), seesR ts vs = some ys → ys.length ≤ ts.length
 | [], ys, h => by cases h
 | x :: xs, ys, h => by
  rw [seesR] at h
  split at h
  ·
   obtain rfl := Option.some.inj h
   exact woK_len _ _
  ·
   exact seesR_len ts xs ys h
theorem sameA_refl (m : List S62) (hm : m.length < 4611686018427387904) : Ev (fun k => belfryref04_Same.f k m m) true := by
 unfold belfryref04_Same.f
 simp only [if_true]
 have : ∀ (n i : Nat), i + n = m.length → Ev (fun k => belfryref04_Same.l0 k m m (i : Int)) true := by
  intro n
  induction n with
  | zero => intro i hin; exact Ev.succ (g := fun _ => some true) (Ev.const rfl) (fun k => by rw [belfryref04_Same.l0, if_neg (by omega)])
  | succ n ih =>
   intro i hin
   exact Ev.succ (ih (i + 1) (by omega)) (fun k => by
    rw [belfryref04_Same.l0, if_pos (by omega), if_pos (by omega), if_pos (by omega), if_neg (by simp), wrap_small (n := (i : Int) + 1) (by omega) (by omega), show (i : Int) + 1 = ((i + 1 : Nat) : Int) by omega])
 exact this m.length 0 (by omega)
end Go.Proofs.YtkedidjjhhjdbaaGreatDoor.Pr
end
section
set_option linter.unusedVariables false
set_option linter.unusedSimpArgs false
namespace Go.Proofs.YtkedidjjhhjdbaaGreatDoor.Pr
open Go.RowKit Go.Proofs.YtkedidjjhhjdbaaGreatDoorW.PrintWords Go.Proofs.YtkedidjjhhjdbaaGreatDoorW.PrintLast Go.Proofs.YtkedidjjhhjdbaaGreatDoorW.PrintMore
theorem seesR_some (ts : List S62) : ∀ vs : List S31, (seesR ts vs).isSome = vs.any fun x => fitsL ts x.f1
 | [] => rfl
 | x :: xs => by
  rw [seesR, List.any_cons]
  cases fitsL ts x.f1 with
  | true => rfl
  | false => simp only [Bool.false_eq_true, if_false, Bool.false_or]; exact seesR_some ts xs
theorem seesR_append (ts : List S62) : ∀ (a b : List S31) (ys : List S62), seesR ts a = some ys → seesR ts (a ++ b) = some ys
 | [], b, ys, h => by cases h
 | x :: xs, b, ys, h => by
  rw [List.cons_append, seesR]
  rw [seesR] at h
  split
  ·
   rename_i hf; rw [if_pos hf] at h; exact h
  ·
   rename_i hf; rw [if_neg hf] at h; exact seesR_append ts xs b ys h
theorem viewsL_append (o : ByteArray) (nt : List S33) : ∀ a b : List S46, viewsL o nt (a ++ b) = viewsL o nt a ++ viewsL o nt b
 | [], b => rfl
 | r :: a, b => by
  rw [List.cons_append, viewsL, viewsL, viewsL_append o nt a b]
  split <;> rfl
theorem wrongL_pre : ∀ a b : List S33, wrongL (a ++ b) = 0 → wrongL a = 0
 | [], b, h => rfl
 | m :: a, b, h => by
  rw [List.cons_append, wrongL] at h
  rw [wrongL]
  by_cases hc : m.f0 < 1 ∨ 4 < m.f0
  ·
   rw [if_pos hc] at h; cases h
  ·
   rw [if_neg hc] at h ⊢
   by_cases hd : keyB m.f1 = true
   ·
    rw [if_pos hd] at h ⊢
    by_cases hp : plainB m.f2 = true
    ·
     rw [if_pos hp] at h ⊢; exact wrongL_pre a b h
    ·
     rw [if_neg hp] at h; cases h
   ·
    rw [if_neg hd] at h; cases h
theorem bothL_ok {a b : List S33} (h : (bothL a b).2 = 0) : (insAllU [] (a ++ b)).length ≤ 8 ∧ wrongL (a ++ b) = 0 ∧ (bothL a b).1 = insAllU [] (a ++ b) := by
 unfold bothL at h ⊢
 split at h
 ·
  cases h
 ·
  rename_i hl
  split at h
  ·
   rename_i hw
   rw [if_neg hl, if_pos hw]
   exact ⟨by omega, hw, rfl⟩
  ·
   rename_i hw; exact absurd h hw
theorem bothL_of {a b : List S33} (h : (insAllU [] (a ++ b)).length ≤ 8) (hw : wrongL (a ++ b) = 0) : bothL a b = (insAllU [] (a ++ b), 0) := by
 unfold bothL
 rw [if_neg (by omega), if_pos hw]
theorem fitsL_ins (ts : List S62) (l : List S33) : fitsL ts (insAllU [] l) = fitsL ts l := by
 unfold fitsL
 rw [Bool.eq_iff_iff, List.all_eq_true, List.all_eq_true]
 exact ⟨fun h x hx => h x ((insAllU_mem x l []).2 (.inr hx)), fun h x hx => h x (((insAllU_mem x l []).1 hx).resolve_left (by simp))⟩
theorem both_less {ts : List S62} {a b : List S33} {x : S33} (h : (bothL a (b ++ [x])).2 = 0) : (bothL a b).2 = 0 ∧ (fitsL ts (bothL a (b ++ [x])).1 = true → fitsL ts (bothL a b).1 = true) := by
 obtain ⟨h1, h2, h3⟩ := bothL_ok h
 have e : insAllU [] (a ++ (b ++ [x])) = insU x (insAllU [] (a ++ b)) := by
  unfold insAllU
  rw [← List.append_assoc, List.foldl_append]
  rfl
 have hl : (insAllU [] (a ++ b)).length ≤ 8 := by
  rw [e] at h1
  exact Nat.le_trans (insU_len x _) h1
 have hw : wrongL (a ++ b) = 0 := by
  rw [← List.append_assoc] at h2
  exact wrongL_pre _ _ h2
 rw [bothL_of hl hw]
 refine ⟨rfl, fun hf => ?_⟩
 rw [h3, fitsL_ins] at hf
 show fitsL ts (insAllU [] (a ++ b)) = true
 rw [fitsL_ins]
 unfold fitsL at hf ⊢
 rw [← List.append_assoc, List.all_append, Bool.and_eq_true] at hf
 exact hf.1
theorem views_less (ts : List S62) (o : ByteArray) (nt : List S33) (x : S33) : ∀ A : List S46, ((viewsL o (nt ++ [x]) A).any fun y => fitsL ts y.f1) = true → ((viewsL o nt A).any fun y => fitsL ts y.f1) = true
 | [], h => by cases h
 | r :: A, h => by
  rw [viewsL] at h
  by_cases h0 : (bothL r.f3 (nt ++ [x])).2 = 0
  ·
   obtain ⟨h1, h2⟩ := both_less (ts := ts) h0
   rw [if_pos h0, List.any_cons, Bool.or_eq_true] at h
   rw [viewsL, if_pos h1, List.any_cons, Bool.or_eq_true]
   exact h.imp h2 (views_less ts o nt x A)
  ·
   rw [if_neg h0] at h
   have ih := views_less ts o nt x A h
   rw [viewsL]
   split
   ·
    rw [List.any_cons, ih, Bool.or_true]
   ·
    exact ih
theorem denL_append (mr : S46) : ∀ D : List S46, denL (D ++ [mr]) = match mr.f3 with
  | [] => ((denL D).1, true)
  | m :: _ => ((denL D).1 ++ [otherM m], (denL D).2)
 | [] => by
  show denL [mr] = _
  simp only [denL]
  cases mr.f3 <;> rfl
 | r :: D => by
  rw [List.cons_append, denL, denL_append mr D]
  cases hr : r.f3 <;> cases hm : mr.f3 <;> simp only [denL, hr, List.cons_append]
theorem more_alw (ts : List S62) (l : List S46) (mr : S46) (o v : ByteArray) (kd : Int) (hd : mr.f0 = false) (ys : List S62) (h : seesR ts (viewsR l o v kd) = some ys) : seesR ts (viewsR (l ++ [mr]) o v kd) = some ys := by
 unfold viewsR at h ⊢
 split
 ·
  rename_i h1; rw [if_pos h1] at h; cases h
 ·
  rename_i h1
  rw [if_neg h1] at h
  split
  ·
   rename_i h2; rw [if_pos h2] at h; exact h
  ·
   rename_i h2
   rw [if_neg h2] at h
   have e1 : ((l ++ [mr]).filter (fitsB v kd)).filter (fun r => r.f0) = (l.filter (fitsB v kd)).filter (fun r => r.f0) := by
    rw [List.filter_append, List.filter_append]
    have : ([mr].filter (fitsB v kd)).filter (fun r => r.f0) = [] := by
     rw [List.filter_eq_nil_iff]
     intro a ha
     have := (List.mem_filter.1 ha).1
     rw [List.mem_singleton.1 this, hd]
     simp
    rw [this, List.append_nil]
   rw [e1]
   split
   ·
    rename_i h3; rw [if_pos h3] at h; exact h
   ·
    rename_i h3
    rw [if_neg h3] at h
    rw [List.filter_append, List.filter_append, viewsL_append]
    exact seesR_append ts _ _ ys h
theorem more_den (ts : List S62) (l : List S46) (mr : S46) (o v : ByteArray) (kd : Int) (hd : mr.f0 = true) (h : (seesR ts (viewsR (l ++ [mr]) o v kd)).isSome = true) : (seesR ts (viewsR l o v kd)).isSome = true := by
 rw [seesR_some] at h ⊢
 unfold viewsR at h ⊢
 split
 ·
  rename_i h1; rw [if_pos h1] at h; exact h
 ·
  rename_i h1
  rw [if_neg h1] at h
  split
  ·
   rename_i h2; rw [if_pos h2] at h; exact h
  ·
   rename_i h2
   rw [if_neg h2] at h
   have e2 : ((l ++ [mr]).filter (fitsB v kd)).filter (fun r => !r.f0) = (l.filter (fitsB v kd)).filter (fun r => !r.f0) := by
    rw [List.filter_append, List.filter_append]
    have : ([mr].filter (fitsB v kd)).filter (fun r => !r.f0) = [] := by
     rw [List.filter_eq_nil_iff]
     intro a ha
     have := (List.mem_filter.1 ha).1
     rw [List.mem_singleton.1 this, hd]
     simp
    rw [this, List.append_nil]
   rw [e2] at h
   cases hf : fitsB v kd mr with
   | false =>
    have e1 : (l ++ [mr]).filter (fitsB v kd) = l.filter (fitsB v kd) := by rw [List.filter_append]; simp [hf]
    rw [e1] at h
    exact h
   | true =>
    have e1 : ((l ++ [mr]).filter (fitsB v kd)).filter (fun r => r.f0) = (l.filter (fitsB v kd)).filter (fun r => r.f0) ++ [mr] := by
     rw [List.filter_append, List.filter_append]
     simp [hf, hd]
    rw [e1, denL_append] at h
    cases hm : mr.f3 with
    | nil =>
     rw [hm] at h
     simp only [if_true] at h
     cases h
    | cons m t =>
     rw [hm] at h
     simp only at h
     split at h
     ·
      cases h
     ·
      rename_i h3
      rw [if_neg h3]
      exact views_less ts o _ _ _ h
end Go.Proofs.YtkedidjjhhjdbaaGreatDoor.Pr
end
