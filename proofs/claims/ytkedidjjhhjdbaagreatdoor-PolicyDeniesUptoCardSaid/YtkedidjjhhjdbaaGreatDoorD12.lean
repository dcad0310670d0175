import Derived.Test.YtkedidjjhhjdbaaGreatDoorD0
import Derived.Test.YtkedidjjhhjdbaaGreatDoorD5
import Derived.Test.YtkedidjjhhjdbaaGreatDoorD11
import Derived.Test.YtkedidjjhhjdbaaGreatDoorD3
import Derived.Test.YtkedidjjhhjdbaaGreatDoorD10
section
namespace Go.Proofs.YtkedidjjhhjdbaaGreatDoor.Pr
open Go.RowKit Go.Proofs.YtkedidjjhhjdbaaGreatDoorW.PrintWords Go.Proofs.YtkedidjjhhjdbaaGreatDoorW.PrintLast Go.Proofs.YtkedidjjhhjdbaaGreatDoorW.PrintMore
attribute [local go_sem] max2_int min2_int max_two min_two max_three min_three max_four min_four strGtr strLeq strGeq
set_option linter.unusedVariables false
set_option linter.unusedSimpArgs false
def attr_Fits.l0 : Nat → List (S62) → List (S33) → Int → Int → Option (Bool)
  | 0, _, _, _, _ => none
  | k + 1, x0, x10, x11, x12 => if x12 < x11 then (if 0 ≤ x12 then (if x12 < (x10.length : Int) then ((attr_Get.f k x0 ((rd_T33 x10 x12).f1)).bind fun bt485 => (if ((rd_T33 x10 x12).f0) = 1 then (if (bt485.1.toList = ((rd_T33 x10 x12).f2).toList) then (attr_Fits.l0 k x0 x10 x11 (wrap64 (x12 + 1))) else (some false)) else (if ((rd_T33 x10 x12).f0) = 2 then (if bt485.1.toList = ((rd_T33 x10 x12).f2).toList then (some false) else (attr_Fits.l0 k x0 x10 x11 (wrap64 (x12 + 1)))) else (if ((rd_T33 x10 x12).f0) = 3 then ((strings_Contains.f bt485.1 ((rd_T33 x10 x12).f2)).bind fun t487 => (if t487 = true then (attr_Fits.l0 k x0 x10 x11 (wrap64 (x12 + 1))) else (some false))) else (if ((rd_T33 x10 x12).f0) = 4 then ((strings_Contains.f bt485.1 ((rd_T33 x10 x12).f2)).bind fun t488 => (if t488 = true then (some false) else (attr_Fits.l0 k x0 x10 x11 (wrap64 (x12 + 1))))) else (some false)))))) else (none)) else (none)) else (some true)
def attr_Fits.f (k : Nat) (l0 : List (S62)) (l1 : List (S33)) : Option (Bool) := attr_Fits.l0 k l0 l1 (l1.length : Int) 0
set_option maxHeartbeats 8000000 in
set_option maxRecDepth 100000 in
theorem attr_Fits.calls (k : Nat) (A0 : Option Addr) (c0 : Nat) (l0 : List (S62)) (A1 : Option Addr) (c1 : Nat) (l1 : List (S33)) (r : Bool) (w : World) (hr0 : Kd.C k62 w A0 l0.length l0) (hc0 : l0.length ≤ c0) (hr1 : Kd.C k33 w A1 l1.length l1) (hc1 : l1.length ≤ c1) (h : attr_Fits.f k l0 l1 = some r) (he_ : EnvW w := by repeat (first | with_reducible assumption | with_reducible exact env_of (by with_reducible assumption) (by with_reducible assumption) | with_reducible exact env_out (by with_reducible assumption) | with_reducible apply env_alloc | with_reducible apply env_drewN | with_reducible apply env_drew | with_reducible refine env_set ?_ (by with_reducible assumption) (by with_reducible assumption))) :
  Calls Tryz.prog 56 #[.slice A0 l0.length c0, .slice A1 l1.length c1] w fun e w' => e = .returned (.bool r) ∧ Below w.heap.size w w' := by
 have HE_ := Aside0.mk he_; clear he_; have hu33 := Tryz.underlying33; have HR0 := Aside0.mk hr0; have HC0 := Aside0.mk hc0; clear hr0 hc0; have HR1 := Aside0.mk hr1; have HC1 := Aside0.mk hc1; clear hr1 hc1; have HB := Aside0.mk (Below.refl w.heap.size w)
 have H : (attr_Fits.l0 k l0 l1 (l1.length : Int) 0) = some r := h
 clear h; have H' := Aside0.mk H; clear H
 go_enter Tryz.func56, Tryz.ntmps56
 go_wp2
 go_loopg [12] k (fun kq v12 w' => ∃ (x12_1 : Int), v12 = .int .i64 x12_1 ∧ Aside0 (attr_Fits.l0 kq l0 l1 (l1.length : Int) x12_1 = some r) ∧ Aside0 (kq ≤ k) ∧ Aside0 (Below w.heap.size w w'))
 case atStart => exact ⟨(0), sR, H', ⟨Nat.le_refl _⟩, ⟨bO⟩⟩
 case round =>
  clear H'; (try clear c1); (try clear p2)
  obtain ⟨x12_1, rfl, HA, HK1, HB⟩ := hrel
  cases gk with
  | zero => exact absurd HA.out (by simp [attr_Fits.l0])
  | succ k1 =>
   have H := HA.out; clear HA
   simp only [attr_Fits.l0] at H
   by_cases c3 : x12_1 < (l1.length : Int); rotate_left
   ·
    rw [if_neg c3] at H
    have c3b0 : decide (x12_1 < (l1.length : Int)) = false := decide_eq_false c3
    clear c3
    obtain rfl := Option.some.inj H
    go_wp2; go_ret
    exact ⟨eR, bO⟩
   rw [if_pos c3] at H
   have c3b0 : decide (x12_1 < (l1.length : Int)) = true := decide_eq_true c3
   clear c3; by_cases c4 : 0 ≤ x12_1; rotate_left
   · rw [if_neg c4] at H; exact absurd H (by simp)
   rw [if_pos c4] at H
   have c4b0 : decide (0 ≤ x12_1) = true := decide_eq_true c4
   clear c4; by_cases c5 : x12_1 < (l1.length : Int); rotate_left
   · rw [if_neg c5] at H; exact absurd H (by simp)
   rw [if_pos c5] at H
   have c5b0 : decide (x12_1 < (l1.length : Int)) = true := decide_eq_true c5
   clear c5
   replace H := Option.bind_eq_some_iff.mp H
   obtain ⟨⟨t485, t486⟩, A60, H⟩ := H
   replace H : (if ((rd_T33 l1 x12_1).f0) = 1 then (if (t485.toList = ((rd_T33 l1 x12_1).f2).toList) then (attr_Fits.l0 k1 l0 l1 (l1.length : Int) (wrap64 (x12_1 + 1))) else (some false)) else (if ((rd_T33 l1 x12_1).f0) = 2 then (if t485.toList = ((rd_T33 l1 x12_1).f2).toList then (some false) else (attr_Fits.l0 k1 l0 l1 (l1.length : Int) (wrap64 (x12_1 + 1)))) else (if ((rd_T33 l1 x12_1).f0) = 3 then ((strings_Contains.f t485 ((rd_T33 l1 x12_1).f2)).bind fun t487 => (if t487 = true then (attr_Fits.l0 k1 l0 l1 (l1.length : Int) (wrap64 (x12_1 + 1))) else (some false))) else (if ((rd_T33 l1 x12_1).f0) = 4 then ((strings_Contains.f t485 ((rd_T33 l1 x12_1).f2)).bind fun t488 => (if t488 = true then (some false) else (attr_Fits.l0 k1 l0 l1 (l1.length : Int) (wrap64 (x12_1 + 1))))) else (some false))))) = some r := H
   have A6 := Aside0.mk A60; clear A60; by_cases c7 : ((rd_T33 l1 x12_1).f0) = 1
   ·
    rw [if_pos c7] at H
    have c7b0 : (((rd_T33 l1 x12_1).f0) == 1) = true := beq_iff_eq.mpr c7
    have c7b1 : (((rd_T33 l1 x12_1).f0) != 1) = false := bne_eq_false_iff_eq.mpr c7
    clear c7; by_cases c8 : (t485.toList = ((rd_T33 l1 x12_1).f2).toList); rotate_left
    ·
     rw [if_neg c8] at H
     have c8b0 : (t485.toList == ((rd_T33 l1 x12_1).f2).toList) = false := beq_eq_false_iff_ne.mpr c8
     have c8b1 : (t485.toList != ((rd_T33 l1 x12_1).f2).toList) = true := bne_iff_ne.mpr c8
     obtain rfl := Option.some.inj H
     have p483 : 0 ≤ (x12_1 : Int) := of_decide_eq_true asm
     have q483 : x12_1 < (l1.length : Int) := of_decide_eq_true asm
     obtain ⟨ad483, e483, hx483_0, hx483_1, hx483_2⟩ := at_T33 HR1.out x12_1 p483 q483
     cases e483
     replace hx483_0 := bC HB hx483_0
     replace hx483_1 := bC HB hx483_1
     replace hx483_2 := bC HB hx483_2
     replace p483 := eq_true p483; replace q483 := eq_true q483
     go_wp2_with (first | ((with_reducible refine gate_dst (N := 6) rfl ?_); refine box_event ?hg (N := 6) ?hd (cs := #[.int .i64 0, .string (⟨#[]⟩ : ByteArray), .string (⟨#[]⟩ : ByteArray)]) (t := 33) ?hr ?_; (case hd => rfl); (case hg => rfl); (case hr => first | (go_simp; done) | (go_simp; rfl)); intro gb484 hg w13 hbox hb; have n0_ := Aside0.mk (below_step bO hb); have n1_ := Aside0.mk (hbox); have n2_ := Aside0.mk ((by rw [hg]; exact (below_size bO) : w.heap.size ≤ gb484)); have n3_ := Aside0.mk ((by rw [hg]; exact (below_size bO) : w.heap.size ≤ gb484)); clear HB; have HB := n0_; have BK484 := n1_; have GW484 := n2_; have GE484 := n3_; clear n0_ n1_ n2_ n3_; clear hb hbox hg; have hcz14_0 : w13.cell? ⟨gb484, 0, none⟩ = some (.int .i64 0) := (blk_cell BK484.out 0).trans rfl; have hcz14_1 : w13.cell? ⟨gb484, 1, none⟩ = some (.string (⟨#[]⟩ : ByteArray)) := (blk_cell BK484.out 1).trans rfl; have hcz14_2 : w13.cell? ⟨gb484, 2, none⟩ = some (.string (⟨#[]⟩ : ByteArray)) := (blk_cell BK484.out 2).trans rfl; have hfz14_0 := blk_frozen BK484.out 0; have hfz14_1 := blk_frozen BK484.out 1; have hfz14_2 := blk_frozen BK484.out 2) | ((with_reducible refine gate_callee (f := 87) rfl ?_); refine goesL_ (some 20) rfl rfl Tryz.func87 (by kernel_rfl) rfl #[.slice A0 l0.length c0, .string ((rd_T33 l1 x12_1).f1)] rfl lR ?_; (with_reducible refine (attr_Get.calls k1 _ _ l0 ((rd_T33 l1 x12_1).f1) t485 t486 _ ?side1 ?side2 A6.out).mono ?_); (case side1 => exact Kd.C_below HR0.out bO); (case side2 => exact HC0.out); rintro e w15 ⟨rfl, hb⟩; refine ⟨_, rfl, ?_⟩; have n0_ := Aside0.mk (blk_below (g := gb484) (o := .cells #[.int .i64 ((rd_T33 l1 x12_1).f0), .string ((rd_T33 l1 x12_1).f1), .string ((rd_T33 l1 x12_1).f2)] 33 (0, 0)) (by (with_reducible repeat (first | refine blk_drewN ?_ _ | refine blk_drew ?_ | refine blk_alloc ?_ _)); refine blk_put (cs := #[.int .i64 ((rd_T33 l1 x12_1).f0), .string ((rd_T33 l1 x12_1).f1), .string (⟨#[]⟩ : ByteArray)]) ?_ 2 _ rfl; (with_reducible repeat (first | refine blk_drewN ?_ _ | refine blk_drew ?_ | refine blk_alloc ?_ _)); refine blk_put (cs := #[.int .i64 ((rd_T33 l1 x12_1).f0), .string (⟨#[]⟩ : ByteArray), .string (⟨#[]⟩ : ByteArray)]) ?_ 1 _ rfl; (with_reducible repeat (first | refine blk_drewN ?_ _ | refine blk_drew ?_ | refine blk_alloc ?_ _)); refine blk_put (cs := #[.int .i64 0, .string (⟨#[]⟩ : ByteArray), .string (⟨#[]⟩ : ByteArray)]) ?_ 0 _ rfl; (with_reducible repeat (first | refine blk_drewN ?_ _ | refine blk_drew ?_ | refine blk_alloc ?_ _)); exact BK484.out) hb); have n1_ := Aside0.mk (below_step bO hb); clear BK484; clear HB; have BK484 := n0_; have HB := n1_; clear n0_ n1_; (try clear hb); (try clear hb2); (try clear hk); (try clear hi); have hcz16_0 : w15.cell? ⟨gb484, 0, none⟩ = some (.int .i64 ((rd_T33 l1 x12_1).f0)) := (blk_cell BK484.out 0).trans rfl; have hcz16_1 : w15.cell? ⟨gb484, 1, none⟩ = some (.string ((rd_T33 l1 x12_1).f1)) := (blk_cell BK484.out 1).trans rfl; have hcz16_2 : w15.cell? ⟨gb484, 2, none⟩ = some (.string ((rd_T33 l1 x12_1).f2)) := (blk_cell BK484.out 2).trans rfl; have hfz16_0 := blk_frozen BK484.out 0; have hfz16_1 := blk_frozen BK484.out 1; have hfz16_2 := blk_frozen BK484.out 2))
     go_ret
     exact ⟨eR, bO⟩
    rw [if_pos c8] at H
    have c8b0 : (t485.toList == ((rd_T33 l1 x12_1).f2).toList) = true := beq_iff_eq.mpr c8
    have c8b1 : (t485.toList != ((rd_T33 l1 x12_1).f2).toList) = false := bne_eq_false_iff_eq.mpr c8
    clear c8; have H' := Aside0.mk H; clear H
    have p483 : 0 ≤ (x12_1 : Int) := of_decide_eq_true asm
    have q483 : x12_1 < (l1.length : Int) := of_decide_eq_true asm
    obtain ⟨ad483, e483, hx483_0, hx483_1, hx483_2⟩ := at_T33 HR1.out x12_1 p483 q483
    cases e483
    replace hx483_0 := bC HB hx483_0
    replace hx483_1 := bC HB hx483_1
    replace hx483_2 := bC HB hx483_2
    replace p483 := eq_true p483; replace q483 := eq_true q483
    go_wp2_with (first | ((with_reducible refine gate_dst (N := 6) rfl ?_); refine box_event ?hg (N := 6) ?hd (cs := #[.int .i64 0, .string (⟨#[]⟩ : ByteArray), .string (⟨#[]⟩ : ByteArray)]) (t := 33) ?hr ?_; (case hd => rfl); (case hg => rfl); (case hr => first | (go_simp; done) | (go_simp; rfl)); intro gb484 hg w9 hbox hb; have n0_ := Aside0.mk (below_step bO hb); have n1_ := Aside0.mk (hbox); have n2_ := Aside0.mk ((by rw [hg]; exact (below_size bO) : w.heap.size ≤ gb484)); have n3_ := Aside0.mk ((by rw [hg]; exact (below_size bO) : w.heap.size ≤ gb484)); clear HB; have HB := n0_; have BK484 := n1_; have GW484 := n2_; have GE484 := n3_; clear n0_ n1_ n2_ n3_; clear hb hbox hg; have hcz10_0 : w9.cell? ⟨gb484, 0, none⟩ = some (.int .i64 0) := (blk_cell BK484.out 0).trans rfl; have hcz10_1 : w9.cell? ⟨gb484, 1, none⟩ = some (.string (⟨#[]⟩ : ByteArray)) := (blk_cell BK484.out 1).trans rfl; have hcz10_2 : w9.cell? ⟨gb484, 2, none⟩ = some (.string (⟨#[]⟩ : ByteArray)) := (blk_cell BK484.out 2).trans rfl; have hfz10_0 := blk_frozen BK484.out 0; have hfz10_1 := blk_frozen BK484.out 1; have hfz10_2 := blk_frozen BK484.out 2) | ((with_reducible refine gate_callee (f := 87) rfl ?_); refine goesL_ (some 20) rfl rfl Tryz.func87 (by kernel_rfl) rfl #[.slice A0 l0.length c0, .string ((rd_T33 l1 x12_1).f1)] rfl lR ?_; (with_reducible refine (attr_Get.calls k1 _ _ l0 ((rd_T33 l1 x12_1).f1) t485 t486 _ ?side1 ?side2 A6.out).mono ?_); (case side1 => exact Kd.C_below HR0.out bO); (case side2 => exact HC0.out); rintro e w11 ⟨rfl, hb⟩; refine ⟨_, rfl, ?_⟩; have n0_ := Aside0.mk (blk_below (g := gb484) (o := .cells #[.int .i64 ((rd_T33 l1 x12_1).f0), .string ((rd_T33 l1 x12_1).f1), .string ((rd_T33 l1 x12_1).f2)] 33 (0, 0)) (by (with_reducible repeat (first | refine blk_drewN ?_ _ | refine blk_drew ?_ | refine blk_alloc ?_ _)); refine blk_put (cs := #[.int .i64 ((rd_T33 l1 x12_1).f0), .string ((rd_T33 l1 x12_1).f1), .string (⟨#[]⟩ : ByteArray)]) ?_ 2 _ rfl; (with_reducible repeat (first | refine blk_drewN ?_ _ | refine blk_drew ?_ | refine blk_alloc ?_ _)); refine blk_put (cs := #[.int .i64 ((rd_T33 l1 x12_1).f0), .string (⟨#[]⟩ : ByteArray), .string (⟨#[]⟩ : ByteArray)]) ?_ 1 _ rfl; (with_reducible repeat (first | refine blk_drewN ?_ _ | refine blk_drew ?_ | refine blk_alloc ?_ _)); refine blk_put (cs := #[.int .i64 0, .string (⟨#[]⟩ : ByteArray), .string (⟨#[]⟩ : ByteArray)]) ?_ 0 _ rfl; (with_reducible repeat (first | refine blk_drewN ?_ _ | refine blk_drew ?_ | refine blk_alloc ?_ _)); exact BK484.out) hb); have n1_ := Aside0.mk (below_step bO hb); clear BK484; clear HB; have BK484 := n0_; have HB := n1_; clear n0_ n1_; (try clear hb); (try clear hb2); (try clear hk); (try clear hi); have hcz12_0 : w11.cell? ⟨gb484, 0, none⟩ = some (.int .i64 ((rd_T33 l1 x12_1).f0)) := (blk_cell BK484.out 0).trans rfl; have hcz12_1 : w11.cell? ⟨gb484, 1, none⟩ = some (.string ((rd_T33 l1 x12_1).f1)) := (blk_cell BK484.out 1).trans rfl; have hcz12_2 : w11.cell? ⟨gb484, 2, none⟩ = some (.string ((rd_T33 l1 x12_1).f2)) := (blk_cell BK484.out 2).trans rfl; have hfz12_0 := blk_frozen BK484.out 0; have hfz12_1 := blk_frozen BK484.out 1; have hfz12_2 := blk_frozen BK484.out 2))
    go_roundg k1
    case measure => have := HK1.out; omega
    case rel => exact ⟨(wrap64 (x12_1 + 1)), sR, H', ⟨by have := HK1.out; omega⟩, ⟨bO⟩⟩
   rw [if_neg c7] at H
   have c7b0 : (((rd_T33 l1 x12_1).f0) == 1) = false := beq_eq_false_iff_ne.mpr c7
   have c7b1 : (((rd_T33 l1 x12_1).f0) != 1) = true := bne_iff_ne.mpr c7
   by_cases c17 : ((rd_T33 l1 x12_1).f0) = 2
   ·
    rw [if_pos c17] at H
    have c17b0 : (((rd_T33 l1 x12_1).f0) == 2) = true := beq_iff_eq.mpr c17
    have c17b1 : (((rd_T33 l1 x12_1).f0) != 2) = false := bne_eq_false_iff_eq.mpr c17
    clear c17; by_cases c18 : t485.toList = ((rd_T33 l1 x12_1).f2).toList
    ·
     rw [if_pos c18] at H
     have c18b0 : (t485.toList == ((rd_T33 l1 x12_1).f2).toList) = true := beq_iff_eq.mpr c18
     have c18b1 : (t485.toList != ((rd_T33 l1 x12_1).f2).toList) = false := bne_eq_false_iff_eq.mpr c18
     clear c18
     obtain rfl := Option.some.inj H
     have p483 : 0 ≤ (x12_1 : Int) := of_decide_eq_true asm
     have q483 : x12_1 < (l1.length : Int) := of_decide_eq_true asm
     obtain ⟨ad483, e483, hx483_0, hx483_1, hx483_2⟩ := at_T33 HR1.out x12_1 p483 q483
     cases e483
     replace hx483_0 := bC HB hx483_0
     replace hx483_1 := bC HB hx483_1
     replace hx483_2 := bC HB hx483_2
     replace p483 := eq_true p483; replace q483 := eq_true q483
     go_wp2_with (first | ((with_reducible refine gate_dst (N := 6) rfl ?_); refine box_event ?hg (N := 6) ?hd (cs := #[.int .i64 0, .string (⟨#[]⟩ : ByteArray), .string (⟨#[]⟩ : ByteArray)]) (t := 33) ?hr ?_; (case hd => rfl); (case hg => rfl); (case hr => first | (go_simp; done) | (go_simp; rfl)); intro gb484 hg w19 hbox hb; have n0_ := Aside0.mk (below_step bO hb); have n1_ := Aside0.mk (hbox); have n2_ := Aside0.mk ((by rw [hg]; exact (below_size bO) : w.heap.size ≤ gb484)); have n3_ := Aside0.mk ((by rw [hg]; exact (below_size bO) : w.heap.size ≤ gb484)); clear HB; have HB := n0_; have BK484 := n1_; have GW484 := n2_; have GE484 := n3_; clear n0_ n1_ n2_ n3_; clear hb hbox hg; have hcz20_0 : w19.cell? ⟨gb484, 0, none⟩ = some (.int .i64 0) := (blk_cell BK484.out 0).trans rfl; have hcz20_1 : w19.cell? ⟨gb484, 1, none⟩ = some (.string (⟨#[]⟩ : ByteArray)) := (blk_cell BK484.out 1).trans rfl; have hcz20_2 : w19.cell? ⟨gb484, 2, none⟩ = some (.string (⟨#[]⟩ : ByteArray)) := (blk_cell BK484.out 2).trans rfl; have hfz20_0 := blk_frozen BK484.out 0; have hfz20_1 := blk_frozen BK484.out 1; have hfz20_2 := blk_frozen BK484.out 2) | ((with_reducible refine gate_callee (f := 87) rfl ?_); refine goesL_ (some 20) rfl rfl Tryz.func87 (by kernel_rfl) rfl #[.slice A0 l0.length c0, .string ((rd_T33 l1 x12_1).f1)] rfl lR ?_; (with_reducible refine (attr_Get.calls k1 _ _ l0 ((rd_T33 l1 x12_1).f1) t485 t486 _ ?side1 ?side2 A6.out).mono ?_); (case side1 => exact Kd.C_below HR0.out bO); (case side2 => exact HC0.out); rintro e w21 ⟨rfl, hb⟩; refine ⟨_, rfl, ?_⟩; have n0_ := Aside0.mk (blk_below (g := gb484) (o := .cells #[.int .i64 ((rd_T33 l1 x12_1).f0), .string ((rd_T33 l1 x12_1).f1), .string ((rd_T33 l1 x12_1).f2)] 33 (0, 0)) (by (with_reducible repeat (first | refine blk_drewN ?_ _ | refine blk_drew ?_ | refine blk_alloc ?_ _)); refine blk_put (cs := #[.int .i64 ((rd_T33 l1 x12_1).f0), .string ((rd_T33 l1 x12_1).f1), .string (⟨#[]⟩ : ByteArray)]) ?_ 2 _ rfl; (with_reducible repeat (first | refine blk_drewN ?_ _ | refine blk_drew ?_ | refine blk_alloc ?_ _)); refine blk_put (cs := #[.int .i64 ((rd_T33 l1 x12_1).f0), .string (⟨#[]⟩ : ByteArray), .string (⟨#[]⟩ : ByteArray)]) ?_ 1 _ rfl; (with_reducible repeat (first | refine blk_drewN ?_ _ | refine blk_drew ?_ | refine blk_alloc ?_ _)); refine blk_put (cs := #[.int .i64 0, .string (⟨#[]⟩ : ByteArray), .string (⟨#[]⟩ : ByteArray)]) ?_ 0 _ rfl; (with_reducible repeat (first | refine blk_drewN ?_ _ | refine blk_drew ?_ | refine blk_alloc ?_ _)); exact BK484.out) hb); have n1_ := Aside0.mk (below_step bO hb); clear BK484; clear HB; have BK484 := n0_; have HB := n1_; clear n0_ n1_; (try clear hb); (try clear hb2); (try clear hk); (try clear hi); have hcz22_0 : w21.cell? ⟨gb484, 0, none⟩ = some (.int .i64 ((rd_T33 l1 x12_1).f0)) := (blk_cell BK484.out 0).trans rfl; have hcz22_1 : w21.cell? ⟨gb484, 1, none⟩ = some (.string ((rd_T33 l1 x12_1).f1)) := (blk_cell BK484.out 1).trans rfl; have hcz22_2 : w21.cell? ⟨gb484, 2, none⟩ = some (.string ((rd_T33 l1 x12_1).f2)) := (blk_cell BK484.out 2).trans rfl; have hfz22_0 := blk_frozen BK484.out 0; have hfz22_1 := blk_frozen BK484.out 1; have hfz22_2 := blk_frozen BK484.out 2))
     go_ret
     exact ⟨eR, bO⟩
    rw [if_neg c18] at H
    have c18b0 : (t485.toList == ((rd_T33 l1 x12_1).f2).toList) = false := beq_eq_false_iff_ne.mpr c18
    have c18b1 : (t485.toList != ((rd_T33 l1 x12_1).f2).toList) = true := bne_iff_ne.mpr c18
    have H' := Aside0.mk H; clear H
    have p483 : 0 ≤ (x12_1 : Int) := of_decide_eq_true asm
    have q483 : x12_1 < (l1.length : Int) := of_decide_eq_true asm
    obtain ⟨ad483, e483, hx483_0, hx483_1, hx483_2⟩ := at_T33 HR1.out x12_1 p483 q483
    cases e483
    replace hx483_0 := bC HB hx483_0
    replace hx483_1 := bC HB hx483_1
    replace hx483_2 := bC HB hx483_2
    replace p483 := eq_true p483; replace q483 := eq_true q483
    go_wp2_with (first | ((with_reducible refine gate_dst (N := 6) rfl ?_); refine box_event ?hg (N := 6) ?hd (cs := #[.int .i64 0, .string (⟨#[]⟩ : ByteArray), .string (⟨#[]⟩ : ByteArray)]) (t := 33) ?hr ?_; (case hd => rfl); (case hg => rfl); (case hr => first | (go_simp; done) | (go_simp; rfl)); intro gb484 hg w23 hbox hb; have n0_ := Aside0.mk (below_step bO hb); have n1_ := Aside0.mk (hbox); have n2_ := Aside0.mk ((by rw [hg]; exact (below_size bO) : w.heap.size ≤ gb484)); have n3_ := Aside0.mk ((by rw [hg]; exact (below_size bO) : w.heap.size ≤ gb484)); clear HB; have HB := n0_; have BK484 := n1_; have GW484 := n2_; have GE484 := n3_; clear n0_ n1_ n2_ n3_; clear hb hbox hg; have hcz24_0 : w23.cell? ⟨gb484, 0, none⟩ = some (.int .i64 0) := (blk_cell BK484.out 0).trans rfl; have hcz24_1 : w23.cell? ⟨gb484, 1, none⟩ = some (.string (⟨#[]⟩ : ByteArray)) := (blk_cell BK484.out 1).trans rfl; have hcz24_2 : w23.cell? ⟨gb484, 2, none⟩ = some (.string (⟨#[]⟩ : ByteArray)) := (blk_cell BK484.out 2).trans rfl; have hfz24_0 := blk_frozen BK484.out 0; have hfz24_1 := blk_frozen BK484.out 1; have hfz24_2 := blk_frozen BK484.out 2) | ((with_reducible refine gate_callee (f := 87) rfl ?_); refine goesL_ (some 20) rfl rfl Tryz.func87 (by kernel_rfl) rfl #[.slice A0 l0.length c0, .string ((rd_T33 l1 x12_1).f1)] rfl lR ?_; (with_reducible refine (attr_Get.calls k1 _ _ l0 ((rd_T33 l1 x12_1).f1) t485 t486 _ ?side1 ?side2 A6.out).mono ?_); (case side1 => exact Kd.C_below HR0.out bO); (case side2 => exact HC0.out); rintro e w25 ⟨rfl, hb⟩; refine ⟨_, rfl, ?_⟩; have n0_ := Aside0.mk (blk_below (g := gb484) (o := .cells #[.int .i64 ((rd_T33 l1 x12_1).f0), .string ((rd_T33 l1 x12_1).f1), .string ((rd_T33 l1 x12_1).f2)] 33 (0, 0)) (by (with_reducible repeat (first | refine blk_drewN ?_ _ | refine blk_drew ?_ | refine blk_alloc ?_ _)); refine blk_put (cs := #[.int .i64 ((rd_T33 l1 x12_1).f0), .string ((rd_T33 l1 x12_1).f1), .string (⟨#[]⟩ : ByteArray)]) ?_ 2 _ rfl; (with_reducible repeat (first | refine blk_drewN ?_ _ | refine blk_drew ?_ | refine blk_alloc ?_ _)); refine blk_put (cs := #[.int .i64 ((rd_T33 l1 x12_1).f0), .string (⟨#[]⟩ : ByteArray), .string (⟨#[]⟩ : ByteArray)]) ?_ 1 _ rfl; (with_reducible repeat (first | refine blk_drewN ?_ _ | refine blk_drew ?_ | refine blk_alloc ?_ _)); refine blk_put (cs := #[.int .i64 0, .string (⟨#[]⟩ : ByteArray), .string (⟨#[]⟩ : ByteArray)]) ?_ 0 _ rfl; (with_reducible repeat (first | refine blk_drewN ?_ _ | refine blk_drew ?_ | refine blk_alloc ?_ _)); exact BK484.out) hb); have n1_ := Aside0.mk (below_step bO hb); clear BK484; clear HB; have BK484 := n0_; have HB := n1_; clear n0_ n1_; (try clear hb); (try clear hb2); (try clear hk); (try clear hi); have hcz26_0 : w25.cell? ⟨gb484, 0, none⟩ = some (.int .i64 ((rd_T33 l1 x12_1).f0)) := (blk_cell BK484.out 0).trans rfl; have hcz26_1 : w25.cell? ⟨gb484, 1, none⟩ = some (.string ((rd_T33 l1 x12_1).f1)) := (blk_cell BK484.out 1).trans rfl; have hcz26_2 : w25.cell? ⟨gb484, 2, none⟩ = some (.string ((rd_T33 l1 x12_1).f2)) := (blk_cell BK484.out 2).trans rfl; have hfz26_0 := blk_frozen BK484.out 0; have hfz26_1 := blk_frozen BK484.out 1; have hfz26_2 := blk_frozen BK484.out 2))
    go_roundg k1
    case measure => have := HK1.out; omega
    case rel => exact ⟨(wrap64 (x12_1 + 1)), sR, H', ⟨by have := HK1.out; omega⟩, ⟨bO⟩⟩
   rw [if_neg c17] at H
   have c17b0 : (((rd_T33 l1 x12_1).f0) == 2) = false := beq_eq_false_iff_ne.mpr c17
   have c17b1 : (((rd_T33 l1 x12_1).f0) != 2) = true := bne_iff_ne.mpr c17
   by_cases c27 : ((rd_T33 l1 x12_1).f0) = 3
   ·
    rw [if_pos c27] at H
    have c27b0 : (((rd_T33 l1 x12_1).f0) == 3) = true := beq_iff_eq.mpr c27
    have c27b1 : (((rd_T33 l1 x12_1).f0) != 3) = false := bne_eq_false_iff_eq.mpr c27
    clear c27
    replace H := Option.bind_eq_some_iff.mp H
    obtain ⟨t487, A280, H⟩ := H
    replace H : (if t487 = true then (attr_Fits.l0 k1 l0 l1 (l1.length : Int) (wrap64 (x12_1 + 1))) else (some false)) = some r := H
    have A28 := Aside0.mk A280; clear A280; by_cases c29 : t487 = true; rotate_left
    ·
     replace c29 := Bool.eq_false_iff.mpr c29
     subst c29
     have H1 : (some false) = some r := by rw [if_neg (show ¬ (false = true) by decide)] at H; exact H
     clear H; have H := H1; clear H1
     obtain rfl := Option.some.inj H
     have p483 : 0 ≤ (x12_1 : Int) := of_decide_eq_true asm
     have q483 : x12_1 < (l1.length : Int) := of_decide_eq_true asm
     obtain ⟨ad483, e483, hx483_0, hx483_1, hx483_2⟩ := at_T33 HR1.out x12_1 p483 q483
     cases e483
     replace hx483_0 := bC HB hx483_0
     replace hx483_1 := bC HB hx483_1
     replace hx483_2 := bC HB hx483_2
     replace p483 := eq_true p483; replace q483 := eq_true q483
     go_wp2_with (first | ((with_reducible refine gate_dst (N := 6) rfl ?_); refine box_event ?hg (N := 6) ?hd (cs := #[.int .i64 0, .string (⟨#[]⟩ : ByteArray), .string (⟨#[]⟩ : ByteArray)]) (t := 33) ?hr ?_; (case hd => rfl); (case hg => rfl); (case hr => first | (go_simp; done) | (go_simp; rfl)); intro gb484 hg w34 hbox hb; have n0_ := Aside0.mk (below_step bO hb); have n1_ := Aside0.mk (hbox); have n2_ := Aside0.mk ((by rw [hg]; exact (below_size bO) : w.heap.size ≤ gb484)); have n3_ := Aside0.mk ((by rw [hg]; exact (below_size bO) : w.heap.size ≤ gb484)); clear HB; have HB := n0_; have BK484 := n1_; have GW484 := n2_; have GE484 := n3_; clear n0_ n1_ n2_ n3_; clear hb hbox hg; have hcz35_0 : w34.cell? ⟨gb484, 0, none⟩ = some (.int .i64 0) := (blk_cell BK484.out 0).trans rfl; have hcz35_1 : w34.cell? ⟨gb484, 1, none⟩ = some (.string (⟨#[]⟩ : ByteArray)) := (blk_cell BK484.out 1).trans rfl; have hcz35_2 : w34.cell? ⟨gb484, 2, none⟩ = some (.string (⟨#[]⟩ : ByteArray)) := (blk_cell BK484.out 2).trans rfl; have hfz35_0 := blk_frozen BK484.out 0; have hfz35_1 := blk_frozen BK484.out 1; have hfz35_2 := blk_frozen BK484.out 2) | ((with_reducible refine gate_callee (f := 87) rfl ?_); refine goesL_ (some 20) rfl rfl Tryz.func87 (by kernel_rfl) rfl #[.slice A0 l0.length c0, .string ((rd_T33 l1 x12_1).f1)] rfl lR ?_; (with_reducible refine (attr_Get.calls k1 _ _ l0 ((rd_T33 l1 x12_1).f1) t485 t486 _ ?side1 ?side2 A6.out).mono ?_); (case side1 => exact Kd.C_below HR0.out bO); (case side2 => exact HC0.out); rintro e w36 ⟨rfl, hb⟩; refine ⟨_, rfl, ?_⟩; have n0_ := Aside0.mk (blk_below (g := gb484) (o := .cells #[.int .i64 ((rd_T33 l1 x12_1).f0), .string ((rd_T33 l1 x12_1).f1), .string ((rd_T33 l1 x12_1).f2)] 33 (0, 0)) (by (with_reducible repeat (first | refine blk_drewN ?_ _ | refine blk_drew ?_ | refine blk_alloc ?_ _)); refine blk_put (cs := #[.int .i64 ((rd_T33 l1 x12_1).f0), .string ((rd_T33 l1 x12_1).f1), .string (⟨#[]⟩ : ByteArray)]) ?_ 2 _ rfl; (with_reducible repeat (first | refine blk_drewN ?_ _ | refine blk_drew ?_ | refine blk_alloc ?_ _)); refine blk_put (cs := #[.int .i64 ((rd_T33 l1 x12_1).f0), .string (⟨#[]⟩ : ByteArray), .string (⟨#[]⟩ : ByteArray)]) ?_ 1 _ rfl; (with_reducible repeat (first | refine blk_drewN ?_ _ | refine blk_drew ?_ | refine blk_alloc ?_ _)); refine blk_put (cs := #[.int .i64 0, .string (⟨#[]⟩ : ByteArray), .string (⟨#[]⟩ : ByteArray)]) ?_ 0 _ rfl; (with_reducible repeat (first | refine blk_drewN ?_ _ | refine blk_drew ?_ | refine blk_alloc ?_ _)); exact BK484.out) hb); have n1_ := Aside0.mk (below_step bO hb); clear BK484; clear HB; have BK484 := n0_; have HB := n1_; clear n0_ n1_; (try clear hb); (try clear hb2); (try clear hk); (try clear hi); have hcz37_0 : w36.cell? ⟨gb484, 0, none⟩ = some (.int .i64 ((rd_T33 l1 x12_1).f0)) := (blk_cell BK484.out 0).trans rfl; have hcz37_1 : w36.cell? ⟨gb484, 1, none⟩ = some (.string ((rd_T33 l1 x12_1).f1)) := (blk_cell BK484.out 1).trans rfl; have hcz37_2 : w36.cell? ⟨gb484, 2, none⟩ = some (.string ((rd_T33 l1 x12_1).f2)) := (blk_cell BK484.out 2).trans rfl; have hfz37_0 := blk_frozen BK484.out 0; have hfz37_1 := blk_frozen BK484.out 1; have hfz37_2 := blk_frozen BK484.out 2) | ((with_reducible refine gate_callee (f := 88) rfl ?_); refine goesL_ (some 42) rfl rfl Tryz.func88 (by kernel_rfl) rfl #[.string t485, .string ((rd_T33 l1 x12_1).f2)] rfl lR ?_; (with_reducible refine (strings_Contains.calls t485 ((rd_T33 l1 x12_1).f2) false _ A28.out).mono ?_); rintro e w' ⟨rfl, ⟨nd, rfl⟩⟩; refine ⟨_, rfl, ?_⟩))
     go_ret
     exact ⟨eR, bO⟩
    subst c29
    have H1 : (attr_Fits.l0 k1 l0 l1 (l1.length : Int) (wrap64 (x12_1 + 1))) = some r := by rw [if_pos rfl] at H; exact H
    clear H; have H := H1; clear H1; have H' := Aside0.mk H; clear H
    have p483 : 0 ≤ (x12_1 : Int) := of_decide_eq_true asm
    have q483 : x12_1 < (l1.length : Int) := of_decide_eq_true asm
    obtain ⟨ad483, e483, hx483_0, hx483_1, hx483_2⟩ := at_T33 HR1.out x12_1 p483 q483
    cases e483
    replace hx483_0 := bC HB hx483_0
    replace hx483_1 := bC HB hx483_1
    replace hx483_2 := bC HB hx483_2
    replace p483 := eq_true p483; replace q483 := eq_true q483
    go_wp2_with (first | ((with_reducible refine gate_dst (N := 6) rfl ?_); refine box_event ?hg (N := 6) ?hd (cs := #[.int .i64 0, .string (⟨#[]⟩ : ByteArray), .string (⟨#[]⟩ : ByteArray)]) (t := 33) ?hr ?_; (case hd => rfl); (case hg => rfl); (case hr => first | (go_simp; done) | (go_simp; rfl)); intro gb484 hg w30 hbox hb; have n0_ := Aside0.mk (below_step bO hb); have n1_ := Aside0.mk (hbox); have n2_ := Aside0.mk ((by rw [hg]; exact (below_size bO) : w.heap.size ≤ gb484)); have n3_ := Aside0.mk ((by rw [hg]; exact (below_size bO) : w.heap.size ≤ gb484)); clear HB; have HB := n0_; have BK484 := n1_; have GW484 := n2_; have GE484 := n3_; clear n0_ n1_ n2_ n3_; clear hb hbox hg; have hcz31_0 : w30.cell? ⟨gb484, 0, none⟩ = some (.int .i64 0) := (blk_cell BK484.out 0).trans rfl; have hcz31_1 : w30.cell? ⟨gb484, 1, none⟩ = some (.string (⟨#[]⟩ : ByteArray)) := (blk_cell BK484.out 1).trans rfl; have hcz31_2 : w30.cell? ⟨gb484, 2, none⟩ = some (.string (⟨#[]⟩ : ByteArray)) := (blk_cell BK484.out 2).trans rfl; have hfz31_0 := blk_frozen BK484.out 0; have hfz31_1 := blk_frozen BK484.out 1; have hfz31_2 := blk_frozen BK484.out 2) | ((with_reducible refine gate_callee (f := 87) rfl ?_); refine goesL_ (some 20) rfl rfl Tryz.func87 (by kernel_rfl) rfl #[.slice A0 l0.length c0, .string ((rd_T33 l1 x12_1).f1)] rfl lR ?_; (with_reducible refine (attr_Get.calls k1 _ _ l0 ((rd_T33 l1 x12_1).f1) t485 t486 _ ?side1 ?side2 A6.out).mono ?_); (case side1 => exact Kd.C_below HR0.out bO); (case side2 => exact HC0.out); rintro e w32 ⟨rfl, hb⟩; refine ⟨_, rfl, ?_⟩; have n0_ := Aside0.mk (blk_below (g := gb484) (o := .cells #[.int .i64 ((rd_T33 l1 x12_1).f0), .string ((rd_T33 l1 x12_1).f1), .string ((rd_T33 l1 x12_1).f2)] 33 (0, 0)) (by (with_reducible repeat (first | refine blk_drewN ?_ _ | refine blk_drew ?_ | refine blk_alloc ?_ _)); refine blk_put (cs := #[.int .i64 ((rd_T33 l1 x12_1).f0), .string ((rd_T33 l1 x12_1).f1), .string (⟨#[]⟩ : ByteArray)]) ?_ 2 _ rfl; (with_reducible repeat (first | refine blk_drewN ?_ _ | refine blk_drew ?_ | refine blk_alloc ?_ _)); refine blk_put (cs := #[.int .i64 ((rd_T33 l1 x12_1).f0), .string (⟨#[]⟩ : ByteArray), .string (⟨#[]⟩ : ByteArray)]) ?_ 1 _ rfl; (with_reducible repeat (first | refine blk_drewN ?_ _ | refine blk_drew ?_ | refine blk_alloc ?_ _)); refine blk_put (cs := #[.int .i64 0, .string (⟨#[]⟩ : ByteArray), .string (⟨#[]⟩ : ByteArray)]) ?_ 0 _ rfl; (with_reducible repeat (first | refine blk_drewN ?_ _ | refine blk_drew ?_ | refine blk_alloc ?_ _)); exact BK484.out) hb); have n1_ := Aside0.mk (below_step bO hb); clear BK484; clear HB; have BK484 := n0_; have HB := n1_; clear n0_ n1_; (try clear hb); (try clear hb2); (try clear hk); (try clear hi); have hcz33_0 : w32.cell? ⟨gb484, 0, none⟩ = some (.int .i64 ((rd_T33 l1 x12_1).f0)) := (blk_cell BK484.out 0).trans rfl; have hcz33_1 : w32.cell? ⟨gb484, 1, none⟩ = some (.string ((rd_T33 l1 x12_1).f1)) := (blk_cell BK484.out 1).trans rfl; have hcz33_2 : w32.cell? ⟨gb484, 2, none⟩ = some (.string ((rd_T33 l1 x12_1).f2)) := (blk_cell BK484.out 2).trans rfl; have hfz33_0 := blk_frozen BK484.out 0; have hfz33_1 := blk_frozen BK484.out 1; have hfz33_2 := blk_frozen BK484.out 2) | ((with_reducible refine gate_callee (f := 88) rfl ?_); refine goesL_ (some 42) rfl rfl Tryz.func88 (by kernel_rfl) rfl #[.string t485, .string ((rd_T33 l1 x12_1).f2)] rfl lR ?_; (with_reducible refine (strings_Contains.calls t485 ((rd_T33 l1 x12_1).f2) true _ A28.out).mono ?_); rintro e w' ⟨rfl, ⟨nd, rfl⟩⟩; refine ⟨_, rfl, ?_⟩))
    go_roundg k1
    case measure => have := HK1.out; omega
    case rel => exact ⟨(wrap64 (x12_1 + 1)), sR, H', ⟨by have := HK1.out; omega⟩, ⟨bO⟩⟩
   rw [if_neg c27] at H
   have c27b0 : (((rd_T33 l1 x12_1).f0) == 3) = false := beq_eq_false_iff_ne.mpr c27
   have c27b1 : (((rd_T33 l1 x12_1).f0) != 3) = true := bne_iff_ne.mpr c27
   by_cases c38 : ((rd_T33 l1 x12_1).f0) = 4; rotate_left
   ·
    rw [if_neg c38] at H
    have c38b0 : (((rd_T33 l1 x12_1).f0) == 4) = false := beq_eq_false_iff_ne.mpr c38
    have c38b1 : (((rd_T33 l1 x12_1).f0) != 4) = true := bne_iff_ne.mpr c38
    obtain rfl := Option.some.inj H
    have p483 : 0 ≤ (x12_1 : Int) := of_decide_eq_true asm
    have q483 : x12_1 < (l1.length : Int) := of_decide_eq_true asm
    obtain ⟨ad483, e483, hx483_0, hx483_1, hx483_2⟩ := at_T33 HR1.out x12_1 p483 q483
    cases e483
    replace hx483_0 := bC HB hx483_0
    replace hx483_1 := bC HB hx483_1
    replace hx483_2 := bC HB hx483_2
    replace p483 := eq_true p483; replace q483 := eq_true q483
    go_wp2_with (first | ((with_reducible refine gate_dst (N := 6) rfl ?_); refine box_event ?hg (N := 6) ?hd (cs := #[.int .i64 0, .string (⟨#[]⟩ : ByteArray), .string (⟨#[]⟩ : ByteArray)]) (t := 33) ?hr ?_; (case hd => rfl); (case hg => rfl); (case hr => first | (go_simp; done) | (go_simp; rfl)); intro gb484 hg w49 hbox hb; have n0_ := Aside0.mk (below_step bO hb); have n1_ := Aside0.mk (hbox); have n2_ := Aside0.mk ((by rw [hg]; exact (below_size bO) : w.heap.size ≤ gb484)); have n3_ := Aside0.mk ((by rw [hg]; exact (below_size bO) : w.heap.size ≤ gb484)); clear HB; have HB := n0_; have BK484 := n1_; have GW484 := n2_; have GE484 := n3_; clear n0_ n1_ n2_ n3_; clear hb hbox hg; have hcz50_0 : w49.cell? ⟨gb484, 0, none⟩ = some (.int .i64 0) := (blk_cell BK484.out 0).trans rfl; have hcz50_1 : w49.cell? ⟨gb484, 1, none⟩ = some (.string (⟨#[]⟩ : ByteArray)) := (blk_cell BK484.out 1).trans rfl; have hcz50_2 : w49.cell? ⟨gb484, 2, none⟩ = some (.string (⟨#[]⟩ : ByteArray)) := (blk_cell BK484.out 2).trans rfl; have hfz50_0 := blk_frozen BK484.out 0; have hfz50_1 := blk_frozen BK484.out 1; have hfz50_2 := blk_frozen BK484.out 2) | ((with_reducible refine gate_callee (f := 87) rfl ?_); refine goesL_ (some 20) rfl rfl Tryz.func87 (by kernel_rfl) rfl #[.slice A0 l0.length c0, .string ((rd_T33 l1 x12_1).f1)] rfl lR ?_; (with_reducible refine (attr_Get.calls k1 _ _ l0 ((rd_T33 l1 x12_1).f1) t485 t486 _ ?side1 ?side2 A6.out).mono ?_); (case side1 => exact Kd.C_below HR0.out bO); (case side2 => exact HC0.out); rintro e w51 ⟨rfl, hb⟩; refine ⟨_, rfl, ?_⟩; have n0_ := Aside0.mk (blk_below (g := gb484) (o := .cells #[.int .i64 ((rd_T33 l1 x12_1).f0), .string ((rd_T33 l1 x12_1).f1), .string ((rd_T33 l1 x12_1).f2)] 33 (0, 0)) (by (with_reducible repeat (first | refine blk_drewN ?_ _ | refine blk_drew ?_ | refine blk_alloc ?_ _)); refine blk_put (cs := #[.int .i64 ((rd_T33 l1 x12_1).f0), .string ((rd_T33 l1 x12_1).f1), .string (⟨#[]⟩ : ByteArray)]) ?_ 2 _ rfl; (with_reducible repeat (first | refine blk_drewN ?_ _ | refine blk_drew ?_ | refine blk_alloc ?_ _)); refine blk_put (cs := #[.int .i64 ((rd_T33 l1 x12_1).f0), .string (⟨#[]⟩ : ByteArray), .string (⟨#[]⟩ : ByteArray)]) ?_ 1 _ rfl; (with_reducible repeat (first | refine blk_drewN ?_ _ | refine blk_drew ?_ | refine blk_alloc ?_ _)); refine blk_put (cs := #[.int .i64 0, .string (⟨#[]⟩ : ByteArray), .string (⟨#[]⟩ : ByteArray)]) ?_ 0 _ rfl; (with_reducible repeat (first | refine blk_drewN ?_ _ | refine blk_drew ?_ | refine blk_alloc ?_ _)); exact BK484.out) hb); have n1_ := Aside0.mk (below_step bO hb); clear BK484; clear HB; have BK484 := n0_; have HB := n1_; clear n0_ n1_; (try clear hb); (try clear hb2); (try clear hk); (try clear hi); have hcz52_0 : w51.cell? ⟨gb484, 0, none⟩ = some (.int .i64 ((rd_T33 l1 x12_1).f0)) := (blk_cell BK484.out 0).trans rfl; have hcz52_1 : w51.cell? ⟨gb484, 1, none⟩ = some (.string ((rd_T33 l1 x12_1).f1)) := (blk_cell BK484.out 1).trans rfl; have hcz52_2 : w51.cell? ⟨gb484, 2, none⟩ = some (.string ((rd_T33 l1 x12_1).f2)) := (blk_cell BK484.out 2).trans rfl; have hfz52_0 := blk_frozen BK484.out 0; have hfz52_1 := blk_frozen BK484.out 1; have hfz52_2 := blk_frozen BK484.out 2))
    go_ret
    exact ⟨eR, bO⟩
   rw [if_pos c38] at H
   have c38b0 : (((rd_T33 l1 x12_1).f0) == 4) = true := beq_iff_eq.mpr c38
   have c38b1 : (((rd_T33 l1 x12_1).f0) != 4) = false := bne_eq_false_iff_eq.mpr c38
   clear c38
   replace H := Option.bind_eq_some_iff.mp H
   obtain ⟨t488, A390, H⟩ := H
   replace H : (if t488 = true then (some false) else (attr_Fits.l0 k1 l0 l1 (l1.length : Int) (wrap64 (x12_1 + 1)))) = some r := H
   have A39 := Aside0.mk A390; clear A390; by_cases c40 : t488 = true
   ·
    subst c40
    have H1 : (some false) = some r := by rw [if_pos rfl] at H; exact H
    clear H; have H := H1; clear H1
    obtain rfl := Option.some.inj H
    have p483 : 0 ≤ (x12_1 : Int) := of_decide_eq_true asm
    have q483 : x12_1 < (l1.length : Int) := of_decide_eq_true asm
    obtain ⟨ad483, e483, hx483_0, hx483_1, hx483_2⟩ := at_T33 HR1.out x12_1 p483 q483
    cases e483
    replace hx483_0 := bC HB hx483_0
    replace hx483_1 := bC HB hx483_1
    replace hx483_2 := bC HB hx483_2
    replace p483 := eq_true p483; replace q483 := eq_true q483
    go_wp2_with (first | ((with_reducible refine gate_dst (N := 6) rfl ?_); refine box_event ?hg (N := 6) ?hd (cs := #[.int .i64 0, .string (⟨#[]⟩ : ByteArray), .string (⟨#[]⟩ : ByteArray)]) (t := 33) ?hr ?_; (case hd => rfl); (case hg => rfl); (case hr => first | (go_simp; done) | (go_simp; rfl)); intro gb484 hg w41 hbox hb; have n0_ := Aside0.mk (below_step bO hb); have n1_ := Aside0.mk (hbox); have n2_ := Aside0.mk ((by rw [hg]; exact (below_size bO) : w.heap.size ≤ gb484)); have n3_ := Aside0.mk ((by rw [hg]; exact (below_size bO) : w.heap.size ≤ gb484)); clear HB; have HB := n0_; have BK484 := n1_; have GW484 := n2_; have GE484 := n3_; clear n0_ n1_ n2_ n3_; clear hb hbox hg; have hcz42_0 : w41.cell? ⟨gb484, 0, none⟩ = some (.int .i64 0) := (blk_cell BK484.out 0).trans rfl; have hcz42_1 : w41.cell? ⟨gb484, 1, none⟩ = some (.string (⟨#[]⟩ : ByteArray)) := (blk_cell BK484.out 1).trans rfl; have hcz42_2 : w41.cell? ⟨gb484, 2, none⟩ = some (.string (⟨#[]⟩ : ByteArray)) := (blk_cell BK484.out 2).trans rfl; have hfz42_0 := blk_frozen BK484.out 0; have hfz42_1 := blk_frozen BK484.out 1; have hfz42_2 := blk_frozen BK484.out 2) | ((with_reducible refine gate_callee (f := 87) rfl ?_); refine goesL_ (some 20) rfl rfl Tryz.func87 (by kernel_rfl) rfl #[.slice A0 l0.length c0, .string ((rd_T33 l1 x12_1).f1)] rfl lR ?_; (with_reducible refine (attr_Get.calls k1 _ _ l0 ((rd_T33 l1 x12_1).f1) t485 t486 _ ?side1 ?side2 A6.out).mono ?_); (case side1 => exact Kd.C_below HR0.out bO); (case side2 => exact HC0.out); rintro e w43 ⟨rfl, hb⟩; refine ⟨_, rfl, ?_⟩; have n0_ := Aside0.mk (blk_below (g := gb484) (o := .cells #[.int .i64 ((rd_T33 l1 x12_1).f0), .string ((rd_T33 l1 x12_1).f1), .string ((rd_T33 l1 x12_1).f2)] 33 (0, 0)) (by (with_reducible repeat (first | refine blk_drewN ?_ _ | refine blk_drew ?_ | refine blk_alloc ?_ _)); refine blk_put (cs := #[.int .i64 ((rd_T33 l1 x12_1).f0), .string ((rd_T33 l1 x12_1).f1), .string (⟨#[]⟩ : ByteArray)]) ?_ 2 _ rfl; (with_reducible repeat (first | refine blk_drewN ?_ _ | refine blk_drew ?_ | refine blk_alloc ?_ _)); refine blk_put (cs := #[.int .i64 ((rd_T33 l1 x12_1).f0), .string (⟨#[]⟩ : ByteArray), .string (⟨#[]⟩ : ByteArray)]) ?_ 1 _ rfl; (with_reducible repeat (first | refine blk_drewN ?_ _ | refine blk_drew ?_ | refine blk_alloc ?_ _)); refine blk_put (cs := #[.int .i64 0, .string (⟨#[]⟩ : ByteArray), .string (⟨#[]⟩ : ByteArray)]) ?_ 0 _ rfl; (with_reducible repeat (first | refine blk_drewN ?_ _ | refine blk_drew ?_ | refine blk_alloc ?_ _)); exact BK484.out) hb); have n1_ := Aside0.mk (below_step bO hb); clear BK484; clear HB; have BK484 := n0_; have HB := n1_; clear n0_ n1_; (try clear hb); (try clear hb2); (try clear hk); (try clear hi); have hcz44_0 : w43.cell? ⟨gb484, 0, none⟩ = some (.int .i64 ((rd_T33 l1 x12_1).f0)) := (blk_cell BK484.out 0).trans rfl; have hcz44_1 : w43.cell? ⟨gb484, 1, none⟩ = some (.string ((rd_T33 l1 x12_1).f1)) := (blk_cell BK484.out 1).trans rfl; have hcz44_2 : w43.cell? ⟨gb484, 2, none⟩ = some (.string ((rd_T33 l1 x12_1).f2)) := (blk_cell BK484.out 2).trans rfl; have hfz44_0 := blk_frozen BK484.out 0; have hfz44_1 := blk_frozen BK484.out 1; have hfz44_2 := blk_frozen BK484.out 2) | ((with_reducible refine gate_callee (f := 88) rfl ?_); refine goesL_ (some 48) rfl rfl Tryz.func88 (by kernel_rfl) rfl #[.string t485, .string ((rd_T33 l1 x12_1).f2)] rfl lR ?_; (with_reducible refine (strings_Contains.calls t485 ((rd_T33 l1 x12_1).f2) true _ A39.out).mono ?_); rintro e w' ⟨rfl, ⟨nd, rfl⟩⟩; refine ⟨_, rfl, ?_⟩))
    go_ret
    exact ⟨eR, bO⟩
   replace c40 := Bool.eq_false_iff.mpr c40
   subst c40
   have H1 : (attr_Fits.l0 k1 l0 l1 (l1.length : Int) (wrap64 (x12_1 + 1))) = some r := by rw [if_neg (show ¬ (false = true) by decide)] at H; exact H
   clear H; have H := H1; clear H1; have H' := Aside0.mk H; clear H
   have p483 : 0 ≤ (x12_1 : Int) := of_decide_eq_true asm
   have q483 : x12_1 < (l1.length : Int) := of_decide_eq_true asm
   obtain ⟨ad483, e483, hx483_0, hx483_1, hx483_2⟩ := at_T33 HR1.out x12_1 p483 q483
   cases e483
   replace hx483_0 := bC HB hx483_0
   replace hx483_1 := bC HB hx483_1
   replace hx483_2 := bC HB hx483_2
   replace p483 := eq_true p483; replace q483 := eq_true q483
   go_wp2_with (first | ((with_reducible refine gate_dst (N := 6) rfl ?_); refine box_event ?hg (N := 6) ?hd (cs := #[.int .i64 0, .string (⟨#[]⟩ : ByteArray), .string (⟨#[]⟩ : ByteArray)]) (t := 33) ?hr ?_; (case hd => rfl); (case hg => rfl); (case hr => first | (go_simp; done) | (go_simp; rfl)); intro gb484 hg w45 hbox hb; have n0_ := Aside0.mk (below_step bO hb); have n1_ := Aside0.mk (hbox); have n2_ := Aside0.mk ((by rw [hg]; exact (below_size bO) : w.heap.size ≤ gb484)); have n3_ := Aside0.mk ((by rw [hg]; exact (below_size bO) : w.heap.size ≤ gb484)); clear HB; have HB := n0_; have BK484 := n1_; have GW484 := n2_; have GE484 := n3_; clear n0_ n1_ n2_ n3_; clear hb hbox hg; have hcz46_0 : w45.cell? ⟨gb484, 0, none⟩ = some (.int .i64 0) := (blk_cell BK484.out 0).trans rfl; have hcz46_1 : w45.cell? ⟨gb484, 1, none⟩ = some (.string (⟨#[]⟩ : ByteArray)) := (blk_cell BK484.out 1).trans rfl; have hcz46_2 : w45.cell? ⟨gb484, 2, none⟩ = some (.string (⟨#[]⟩ : ByteArray)) := (blk_cell BK484.out 2).trans rfl; have hfz46_0 := blk_frozen BK484.out 0; have hfz46_1 := blk_frozen BK484.out 1; have hfz46_2 := blk_frozen BK484.out 2) | ((with_reducible refine gate_callee (f := 87) rfl ?_); refine goesL_ (some 20) rfl rfl Tryz.func87 (by kernel_rfl) rfl #[.slice A0 l0.length c0, .string ((rd_T33 l1 x12_1).f1)] rfl lR ?_; (with_reducible refine (attr_Get.calls k1 _ _ l0 ((rd_T33 l1 x12_1).f1) t485 t486 _ ?side1 ?side2 A6.out).mono ?_); (case side1 => exact Kd.C_below HR0.out bO); (case side2 => exact HC0.out); rintro e w47 ⟨rfl, hb⟩; refine ⟨_, rfl, ?_⟩; have n0_ := Aside0.mk (blk_below (g := gb484) (o := .cells #[.int .i64 ((rd_T33 l1 x12_1).f0), .string ((rd_T33 l1 x12_1).f1), .string ((rd_T33 l1 x12_1).f2)] 33 (0, 0)) (by (with_reducible repeat (first | refine blk_drewN ?_ _ | refine blk_drew ?_ | refine blk_alloc ?_ _)); refine blk_put (cs := #[.int .i64 ((rd_T33 l1 x12_1).f0), .string ((rd_T33 l1 x12_1).f1), .string (⟨#[]⟩ : ByteArray)]) ?_ 2 _ rfl; (with_reducible repeat (first | refine blk_drewN ?_ _ | refine blk_drew ?_ | refine blk_alloc ?_ _)); refine blk_put (cs := #[.int .i64 ((rd_T33 l1 x12_1).f0), .string (⟨#[]⟩ : ByteArray), .string (⟨#[]⟩ : ByteArray)]) ?_ 1 _ rfl; (with_reducible repeat (first | refine blk_drewN ?_ _ | refine blk_drew ?_ | refine blk_alloc ?_ _)); refine blk_put (cs := #[.int .i64 0, .string (⟨#[]⟩ : ByteArray), .string (⟨#[]⟩ : ByteArray)]) ?_ 0 _ rfl; (with_reducible repeat (first | refine blk_drewN ?_ _ | refine blk_drew ?_ | refine blk_alloc ?_ _)); exact BK484.out) hb); have n1_ := Aside0.mk (below_step bO hb); clear BK484; clear HB; have BK484 := n0_; have HB := n1_; clear n0_ n1_; (try clear hb); (try clear hb2); (try clear hk); (try clear hi); have hcz48_0 : w47.cell? ⟨gb484, 0, none⟩ = some (.int .i64 ((rd_T33 l1 x12_1).f0)) := (blk_cell BK484.out 0).trans rfl; have hcz48_1 : w47.cell? ⟨gb484, 1, none⟩ = some (.string ((rd_T33 l1 x12_1).f1)) := (blk_cell BK484.out 1).trans rfl; have hcz48_2 : w47.cell? ⟨gb484, 2, none⟩ = some (.string ((rd_T33 l1 x12_1).f2)) := (blk_cell BK484.out 2).trans rfl; have hfz48_0 := blk_frozen BK484.out 0; have hfz48_1 := blk_frozen BK484.out 1; have hfz48_2 := blk_frozen BK484.out 2) | ((with_reducible refine gate_callee (f := 88) rfl ?_); refine goesL_ (some 48) rfl rfl Tryz.func88 (by kernel_rfl) rfl #[.string t485, .string ((rd_T33 l1 x12_1).f2)] rfl lR ?_; (with_reducible refine (strings_Contains.calls t485 ((rd_T33 l1 x12_1).f2) false _ A39.out).mono ?_); rintro e w' ⟨rfl, ⟨nd, rfl⟩⟩; refine ⟨_, rfl, ?_⟩))
   go_roundg k1
   case measure => have := HK1.out; omega
   case rel => exact ⟨(wrap64 (x12_1 + 1)), sR, H', ⟨by have := HK1.out; omega⟩, ⟨bO⟩⟩
def slices_Contains_string_string.f (k : Nat) (l0 : List ByteArray) (a1 : ByteArray) : Option (Bool) := (slices_Index_string_string.f k l0 a1).bind fun t489 => (some (decide (t489 ≥ 0)))
set_option maxHeartbeats 8000000 in
set_option maxRecDepth 100000 in
theorem slices_Contains_string_string.calls (k : Nat) (A0 : Option Addr) (c0 : Nat) (l0 : List ByteArray) (a1 : ByteArray) (r : Bool) (w : World) (hr0 : Kd.C Kd.string w A0 l0.length l0) (hc0 : l0.length ≤ c0) (h : slices_Contains_string_string.f k l0 a1 = some r) :
  Calls Tryz.prog 89 #[.slice A0 l0.length c0, .string a1] w fun e w' => e = .returned (.bool r) ∧ Drawn0 w w' := by
 have HR0 := Aside0.mk hr0; have HC0 := Aside0.mk hc0; clear hr0 hc0
 have H : ((slices_Index_string_string.f k l0 a1).bind fun t489 => (some (decide (t489 ≥ 0)))) = some r := h
 clear h
 replace H := Option.bind_eq_some_iff.mp H
 obtain ⟨t489, A30, H⟩ := H
 replace H : (some (decide (t489 ≥ 0))) = some r := H
 have A3 := Aside0.mk A30; clear A30
 obtain rfl := Option.some.inj H
 go_enter Tryz.func89, Tryz.ntmps89
 go_wp2_with (first | ((with_reducible refine gate_callee (f := 76) rfl ?_); refine goesL_ (some 7) rfl rfl Tryz.func76 (by kernel_rfl) rfl #[.slice A0 l0.length c0, .string a1] rfl lR ?_; (with_reducible refine (slices_Index_string_string.calls k _ _ l0 a1 t489 _ ?side1 ?side2 A3.out).mono ?_); (case side1 => repeat (first | exact HR0.out | (with_reducible refine Kd.C_alloc ?_ _) | (with_reducible refine Kd.C_drewN ?_ _) | (with_reducible refine Kd.C_drew ?_))); (case side2 => exact HC0.out); rintro e w' ⟨rfl, ⟨nd, rfl⟩⟩; refine ⟨_, rfl, ?_⟩))
 go_ret
 exact ⟨by first | rfl | (simp; done) | (simp [*]; done), by repeat (first | exact Drawn0.refl _ | apply Drawn0.step)⟩
def attr_Without.l0 : Nat → List ByteArray → List (S62) → List (S62) → Int → Int → Option ((List (S62)))
  | 0, _, _, _, _, _ => none
  | k + 1, x1, x5, x8, x9, x10 => if x10 < x9 then (if 0 ≤ x10 then (if x10 < (x8.length : Int) then ((slices_Contains_string_string.f k x1 ((rd_T62 x8 x10).f0)).bind fun t492 => (if t492 = true then (attr_Without.l0 k x1 x5 x8 x9 (wrap64 (x10 + 1))) else (if x5.length < 4398046511104 then (attr_Without.l0 k x1 (x5 ++ [(⟨(rd_T62 x8 x10).f0, (rd_T62 x8 x10).f1⟩ : S62)]) x8 x9 (wrap64 (x10 + 1))) else (none)))) else (none)) else (none)) else (some x5)
def attr_Without.f (k : Nat) (l0 : List (S62)) (l1 : List ByteArray) : Option ((List (S62))) := attr_Without.l0 k l1 ([] : List (S62)) l0 (l0.length : Int) 0
set_option maxHeartbeats 8000000 in
set_option maxRecDepth 100000 in
theorem attr_Without.calls (k : Nat) (A0 : Option Addr) (c0 : Nat) (l0 : List (S62)) (A1 : Option Addr) (c1 : Nat) (l1 : List ByteArray) (r : List (S62)) (w : World) (hr0 : Kd.C k62 w A0 l0.length l0) (hc0 : l0.length ≤ c0) (hr1 : Kd.C Kd.string w A1 l1.length l1) (hc1 : l1.length ≤ c1) (h : attr_Without.f k l0 l1 = some r) :
  Calls Tryz.prog 57 #[.slice A0 l0.length c0, .slice A1 l1.length c1] w fun e w' => ∃ v0_ : Value, e = .returned (v0_) ∧ Kd.R k62 62 w' w.heap.size (fun _ => True) v0_ r ∧ Below w.heap.size w w' := by
 have hu62 := Tryz.underlying62; have HR0 := Aside0.mk hr0; have HC0 := Aside0.mk hc0; clear hr0 hc0; have HR1 := Aside0.mk hr1; have HC1 := Aside0.mk hc1; clear hr1 hc1; have HB := Aside0.mk (Below.refl w.heap.size w)
 have H : (attr_Without.l0 k l1 ([] : List (S62)) l0 (l0.length : Int) 0) = some r := h
 clear h; have H' := Aside0.mk H; clear H
 go_enter Tryz.func57, Tryz.ntmps57
 go_wp2
 go_loopg [5, 10] k (fun kq v5 v10 w' => ∃ (x5_1 : List (S62)) (x10_1 : Int), v10 = .int .i64 x10_1 ∧ Aside0 (attr_Without.l0 kq l1 x5_1 l0 (l0.length : Int) x10_1 = some r) ∧ Aside0 (kq ≤ k) ∧ Aside0 (Kd.R k62 62 w' w.heap.size (fun _ => True) v5 x5_1) ∧ Aside0 (Below w.heap.size w w'))
 case atStart => exact ⟨(([] : List (S62))), (0), sR, H', ⟨Nat.le_refl _⟩, ⟨by first | exact Kd.R_nil _ _ _ _ _ | exact Kd.N_nil _ _ _ _ _ | exact Kd.V_nil _ _ _ _ _ | exact Kd.Q_nil _ _ _ _ _ | exact Kd.S_nil _ _ _ _ _⟩, ⟨bO⟩⟩
 case round =>
  clear H'; (try clear c1); (try clear p2)
  obtain ⟨x5_1, x10_1, rfl, HA, HK1, HO_5, HB⟩ := hrel
  cases gk with
  | zero => exact absurd HA.out (by simp [attr_Without.l0])
  | succ k1 =>
   have H := HA.out; clear HA
   simp only [attr_Without.l0] at H
   by_cases c3 : x10_1 < (l0.length : Int); rotate_left
   ·
    rw [if_neg c3] at H
    have c3b0 : decide (x10_1 < (l0.length : Int)) = false := decide_eq_false c3
    clear c3
    obtain rfl := Option.some.inj H
    go_wp2; go_ret
    exact ⟨_, eR, by (with_reducible repeat (first | apply Kd.R_alloc | apply Kd.R_drewN | apply Kd.R_drew)); exact HO_5.out, bO⟩
   rw [if_pos c3] at H
   have c3b0 : decide (x10_1 < (l0.length : Int)) = true := decide_eq_true c3
   clear c3; by_cases c4 : 0 ≤ x10_1; rotate_left
   · rw [if_neg c4] at H; exact absurd H (by simp)
   rw [if_pos c4] at H
   have c4b0 : decide (0 ≤ x10_1) = true := decide_eq_true c4
   clear c4; by_cases c5 : x10_1 < (l0.length : Int); rotate_left
   · rw [if_neg c5] at H; exact absurd H (by simp)
   rw [if_pos c5] at H
   have c5b0 : decide (x10_1 < (l0.length : Int)) = true := decide_eq_true c5
   clear c5
   replace H := Option.bind_eq_some_iff.mp H
   obtain ⟨t492, A60, H⟩ := H
   replace H : (if t492 = true then (attr_Without.l0 k1 l1 x5_1 l0 (l0.length : Int) (wrap64 (x10_1 + 1))) else (if x5_1.length < 4398046511104 then (attr_Without.l0 k1 l1 (x5_1 ++ [(⟨(rd_T62 l0 x10_1).f0, (rd_T62 l0 x10_1).f1⟩ : S62)]) l0 (l0.length : Int) (wrap64 (x10_1 + 1))) else (none))) = some r := H
   have A6 := Aside0.mk A60; clear A60; by_cases c7 : t492 = true
   ·
    subst c7
    have H1 : (attr_Without.l0 k1 l1 x5_1 l0 (l0.length : Int) (wrap64 (x10_1 + 1))) = some r := by rw [if_pos rfl] at H; exact H
    clear H; have H := H1; clear H1; have H' := Aside0.mk H; clear H
    have p490 : 0 ≤ (x10_1 : Int) := of_decide_eq_true asm
    have q490 : x10_1 < (l0.length : Int) := of_decide_eq_true asm
    obtain ⟨ad490, e490, hx490_0, hx490_1⟩ := at_T62 HR0.out x10_1 p490 q490
    cases e490
    replace hx490_0 := bC HB hx490_0
    replace hx490_1 := bC HB hx490_1
    replace p490 := eq_true p490; replace q490 := eq_true q490
    go_wp2_with (first | ((with_reducible refine gate_dst (N := 7) rfl ?_); refine box_event ?hg (N := 7) ?hd (cs := #[.string (⟨#[]⟩ : ByteArray), .string (⟨#[]⟩ : ByteArray)]) (t := 62) ?hr ?_; (case hd => rfl); (case hg => rfl); (case hr => first | (go_simp; done) | (go_simp; rfl)); intro gb491 hg w8 hbox hb; have n0_ := Aside0.mk (Kd.R_below (Kd.R_elderB (by (with_reducible repeat (first | apply Kd.R_alloc | apply Kd.R_drewN | apply Kd.R_drew)); exact HO_5.out) gb491 (Nat.le_of_eq hg.symm)) hb); have n1_ := Aside0.mk (below_step bO hb); have n2_ := Aside0.mk (hbox); have n3_ := Aside0.mk ((by rw [hg]; exact (below_size bO) : w.heap.size ≤ gb491)); have n4_ := Aside0.mk ((by rw [hg]; exact (below_size bO) : w.heap.size ≤ gb491)); clear HO_5; clear HB; have HO_5 := n0_; have HB := n1_; have BK491 := n2_; have GW491 := n3_; have GE491 := n4_; clear n0_ n1_ n2_ n3_ n4_; clear hb hbox hg; have hcz9_0 : w8.cell? ⟨gb491, 0, none⟩ = some (.string (⟨#[]⟩ : ByteArray)) := (blk_cell BK491.out 0).trans rfl; have hcz9_1 : w8.cell? ⟨gb491, 1, none⟩ = some (.string (⟨#[]⟩ : ByteArray)) := (blk_cell BK491.out 1).trans rfl; have hfz9_0 := blk_frozen BK491.out 0; have hfz9_1 := blk_frozen BK491.out 1) | ((with_reducible refine gate_callee (f := 89) rfl ?_); refine goesL_ (some 17) rfl rfl Tryz.func89 (by kernel_rfl) rfl #[.slice A1 l1.length c1, .string ((rd_T62 l0 x10_1).f0)] rfl lR ?_; (with_reducible refine (slices_Contains_string_string.calls k1 _ _ l1 ((rd_T62 l0 x10_1).f0) true _ ?side1 ?side2 A6.out).mono ?_); (case side1 => exact Kd.C_below HR1.out bO); (case side2 => exact HC1.out); rintro e w' ⟨rfl, ⟨nd, rfl⟩⟩; refine ⟨_, rfl, ?_⟩))
    go_roundg k1
    case measure => have := HK1.out; omega
    case rel => exact ⟨(x5_1), (wrap64 (x10_1 + 1)), sR, H', ⟨by have := HK1.out; omega⟩, ⟨by (with_reducible repeat (first | apply Kd.R_alloc | apply Kd.R_drewN | apply Kd.R_drew)); exact Kd.R_mono (Kd.R_far (p := ⟨gb491, 1, none⟩) (Kd.R_far (p := ⟨gb491, 0, none⟩) (Kd.R_mono HO_5.out (fun k_ hk => (⟨hk, hk.2⟩ : _ ∧ k_ ≠ gb491))) (fun _ hk => hk.2) (.string ((rd_T62 l0 x10_1).f0))) (fun _ hk => hk.2) (.string ((rd_T62 l0 x10_1).f1))) (fun _ hk => trivial)⟩, ⟨bO⟩⟩
   replace c7 := Bool.eq_false_iff.mpr c7
   subst c7
   have H1 : (if x5_1.length < 4398046511104 then (attr_Without.l0 k1 l1 (x5_1 ++ [(⟨(rd_T62 l0 x10_1).f0, (rd_T62 l0 x10_1).f1⟩ : S62)]) l0 (l0.length : Int) (wrap64 (x10_1 + 1))) else (none)) = some r := by rw [if_neg (show ¬ (false = true) by decide)] at H; exact H
   clear H; have H := H1; clear H1; by_cases c10 : x5_1.length < 4398046511104; rotate_left
   · rw [if_neg c10] at H; exact absurd H (by simp)
   rw [if_pos c10] at H; have LMc10 := Aside0.mk c10; clear c10
   obtain ⟨y493, hy493⟩ : ∃ y_ : List (S62), y_ = (x5_1 ++ [(⟨(rd_T62 l0 x10_1).f0, (rd_T62 l0 x10_1).f1⟩ : S62)]) := ⟨_, rfl⟩
   replace H : (attr_Without.l0 k1 l1 y493 l0 (l0.length : Int) (wrap64 (x10_1 + 1))) = some r := by first | (rw [hy493]; with_reducible exact H) | (have H2_ := (Option.bind_some _ _).symm.trans H; rw [hy493]; with_reducible exact H2_) | (have H2_ := (Option.bind_some _ _).symm.trans H; with_reducible exact H2_) | with_reducible exact H | (rw [hy493]; exact H) | exact H
   have Ny493 := Aside0.mk hy493; clear hy493; have H' := Aside0.mk H; clear H
   have p490 : 0 ≤ (x10_1 : Int) := of_decide_eq_true asm
   have q490 : x10_1 < (l0.length : Int) := of_decide_eq_true asm
   obtain ⟨ad490, e490, hx490_0, hx490_1⟩ := at_T62 HR0.out x10_1 p490 q490
   cases e490
   replace hx490_0 := bC HB hx490_0
   replace hx490_1 := bC HB hx490_1
   replace p490 := eq_true p490; replace q490 := eq_true q490
   go_wp2_with (first | ((with_reducible refine gate_dst (N := 7) rfl ?_); refine box_event ?hg (N := 7) ?hd (cs := #[.string (⟨#[]⟩ : ByteArray), .string (⟨#[]⟩ : ByteArray)]) (t := 62) ?hr ?_; (case hd => rfl); (case hg => rfl); (case hr => first | (go_simp; done) | (go_simp; rfl)); intro gb491 hg w11 hbox hb; have n0_ := Aside0.mk (Kd.R_below (Kd.R_elderB (by (with_reducible repeat (first | apply Kd.R_alloc | apply Kd.R_drewN | apply Kd.R_drew)); exact HO_5.out) gb491 (Nat.le_of_eq hg.symm)) hb); have n1_ := Aside0.mk (below_step bO hb); have n2_ := Aside0.mk (hbox); have n3_ := Aside0.mk ((by rw [hg]; exact (below_size bO) : w.heap.size ≤ gb491)); have n4_ := Aside0.mk ((by rw [hg]; exact (below_size bO) : w.heap.size ≤ gb491)); clear HO_5; clear HB; have HO_5 := n0_; have HB := n1_; have BK491 := n2_; have GW491 := n3_; have GE491 := n4_; clear n0_ n1_ n2_ n3_ n4_; clear hb hbox hg; have hcz12_0 : w11.cell? ⟨gb491, 0, none⟩ = some (.string (⟨#[]⟩ : ByteArray)) := (blk_cell BK491.out 0).trans rfl; have hcz12_1 : w11.cell? ⟨gb491, 1, none⟩ = some (.string (⟨#[]⟩ : ByteArray)) := (blk_cell BK491.out 1).trans rfl; have hfz12_0 := blk_frozen BK491.out 0; have hfz12_1 := blk_frozen BK491.out 1) | ((with_reducible refine gate_callee (f := 89) rfl ?_); refine goesL_ (some 17) rfl rfl Tryz.func89 (by kernel_rfl) rfl #[.slice A1 l1.length c1, .string ((rd_T62 l0 x10_1).f0)] rfl lR ?_; (with_reducible refine (slices_Contains_string_string.calls k1 _ _ l1 ((rd_T62 l0 x10_1).f0) false _ ?side1 ?side2 A6.out).mono ?_); (case side1 => exact Kd.C_below HR1.out bO); (case side2 => exact HC1.out); rintro e w' ⟨rfl, ⟨nd, rfl⟩⟩; refine ⟨_, rfl, ?_⟩) | ((with_reducible refine gate_builtin (b := .append) (xs := #[.tmp 19, .tmp 21]) rfl ?_); at_builtin; refine Kd.R_append k62 (w0 := w) w.heap.size rfl (.tmp 19) (.tmp 21) 48 62 (.agg #[(.string ⟨#[]⟩), (.string ⟨#[]⟩)]) 32 rfl Tryz.underlying48 info62 rfl (by decide) (by omega) u5 x5_1 (⟨(rd_T62 l0 x10_1).f0, (rd_T62 l0 x10_1).f1⟩ : S62) [.string ((rd_T62 l0 x10_1).f0), .string ((rd_T62 l0 x10_1).f1)] (fun k_ => k_ ≠ gb491) (fun _ => False) rfl (by first | (go_simp; done) | (go_simp; rfl)) ?aP (fun _ hk => hk.elim) ?aF ?aO ?aB ?aS ?aL ?_; (case aP => exact k62_mkM _ _ _ (⟨(rd_T62 l0 x10_1).f0, (rd_T62 l0 x10_1).f1⟩ : S62)); (case aB => exact bO); (case aF => exact (fun k_ hk => Kd.freshB (g := gb491) (o := .cells #[.string ((rd_T62 l0 x10_1).f0), .string ((rd_T62 l0 x10_1).f1)] 62 (0, 0)) (by (with_reducible repeat (first | refine blk_drewN ?_ _ | refine blk_drew ?_ | refine blk_alloc ?_ _)); refine blk_put (cs := #[.string ((rd_T62 l0 x10_1).f0), .string (⟨#[]⟩ : ByteArray)]) ?_ 1 _ rfl; (with_reducible repeat (first | refine blk_drewN ?_ _ | refine blk_drew ?_ | refine blk_alloc ?_ _)); refine blk_put (cs := #[.string (⟨#[]⟩ : ByteArray), .string (⟨#[]⟩ : ByteArray)]) ?_ 0 _ rfl; (with_reducible repeat (first | refine blk_drewN ?_ _ | refine blk_drew ?_ | refine blk_alloc ?_ _)); exact BK491.out) k_ hk)); (case aO => exact (by (with_reducible repeat (first | apply Kd.R_alloc | apply Kd.R_drewN | apply Kd.R_drew)); exact Kd.R_mono (Kd.R_far (p := ⟨gb491, 1, none⟩) (Kd.R_far (p := ⟨gb491, 0, none⟩) (Kd.R_mono HO_5.out (fun k_ hk => (⟨hk, hk.2⟩ : _ ∧ k_ ≠ gb491))) (fun _ hk => hk.2) (.string ((rd_T62 l0 x10_1).f0))) (fun _ hk => hk.2) (.string ((rd_T62 l0 x10_1).f1))) (fun _ hk => hk.1.2))); (case aS => exact (below_size bO)); (case aL => have := LMc10.out; omega); intro v494 w13 ho hb hg hat; rw [← Ny493.out] at ho; have n0_ := Aside0.mk (blk_grown (g := gb491) (o := .cells #[.string ((rd_T62 l0 x10_1).f0), .string ((rd_T62 l0 x10_1).f1)] 62 (0, 0)) (by (with_reducible repeat (first | refine blk_drewN ?_ _ | refine blk_drew ?_ | refine blk_alloc ?_ _)); refine blk_put (cs := #[.string ((rd_T62 l0 x10_1).f0), .string (⟨#[]⟩ : ByteArray)]) ?_ 1 _ rfl; (with_reducible repeat (first | refine blk_drewN ?_ _ | refine blk_drew ?_ | refine blk_alloc ?_ _)); refine blk_put (cs := #[.string (⟨#[]⟩ : ByteArray), .string (⟨#[]⟩ : ByteArray)]) ?_ 0 _ rfl; (with_reducible repeat (first | refine blk_drewN ?_ _ | refine blk_drew ?_ | refine blk_alloc ?_ _)); exact BK491.out) hg (Kd.R_away HO_5.out (fun _ hk => hk.2))); have n1_ := Aside0.mk (hb); have n2_ := Aside0.mk (ho); clear BK491; clear HB; clear HO_5; have BK491 := n0_; have HB := n1_; have HO495 := n2_; clear n0_ n1_ n2_; clear ho hb hg hat))
   go_roundg k1
   case measure => have := HK1.out; omega
   case rel => exact ⟨(y493), (wrap64 (x10_1 + 1)), sR, H', ⟨by have := HK1.out; omega⟩, ⟨by (with_reducible repeat (first | apply Kd.R_alloc | apply Kd.R_drewN | apply Kd.R_drew)); exact Kd.R_mono HO495.out (fun _ hk => trivial)⟩, ⟨bO⟩⟩
def belfryref04_Get.l0 : Nat → List (S62) → ByteArray → Int → Option (ByteArray × Bool)
  | 0, _, _, _ => none
  | k + 1, x0, x1, x6 => if x6 < (x0.length : Int) then (if 0 ≤ x6 then (if ((rd_T62 x0 x6).f0).toList = x1.toList then (some ((rd_T62 x0 x6).f1, true)) else (belfryref04_Get.l0 k x0 x1 (wrap64 (x6 + 1)))) else (none)) else (some ((⟨#[]⟩ : ByteArray), false))
def belfryref04_Get.f (k : Nat) (l0 : List (S62)) (a1 : ByteArray) : Option (ByteArray × Bool) := belfryref04_Get.l0 k l0 a1 0
set_option maxHeartbeats 8000000 in
set_option maxRecDepth 100000 in
theorem belfryref04_Get.calls (k : Nat) (A0 : Option Addr) (c0 : Nat) (l0 : List (S62)) (a1 : ByteArray) (r1 : ByteArray) (r2 : Bool) (w : World) (hr0 : Kd.C k62 w A0 l0.length l0) (hc0 : l0.length ≤ c0) (h : belfryref04_Get.f k l0 a1 = some (r1, r2)) :
  Calls Tryz.prog 60 #[.slice A0 l0.length c0, .string a1] w fun e w' => e = .returned (.tuple #[.string r1, .bool r2]) ∧ Drawn0 w w' := by
 have HR0 := Aside0.mk hr0; have HC0 := Aside0.mk hc0; clear hr0 hc0
 have H : (belfryref04_Get.l0 k l0 a1 0) = some (r1, r2) := h
 clear h; have H' := Aside0.mk H; clear H
 go_enter Tryz.func60, Tryz.ntmps60
 go_wp2
 go_loopg [6] k (fun kq v6 w' => ∃ (x6_1 : Int), v6 = .int .i64 x6_1 ∧ Aside0 (belfryref04_Get.l0 kq l0 a1 x6_1 = some (r1, r2)) ∧ Aside0 (kq ≤ k) ∧ Drawn0 w w')
 case atStart => exact ⟨(0), sR, H', ⟨Nat.le_refl _⟩, by repeat (first | exact Drawn0.refl _ | apply Drawn0.step)⟩
 case round =>
  clear H'; (try clear p2)
  obtain ⟨x6_1, rfl, HA, HK1, ⟨m1, rfl⟩⟩ := hrel
  cases gk with
  | zero => exact absurd HA.out (by simp [belfryref04_Get.l0])
  | succ k1 =>
   have H := HA.out; clear HA
   simp only [belfryref04_Get.l0] at H
   by_cases c3 : x6_1 < (l0.length : Int); rotate_left
   ·
    rw [if_neg c3] at H
    have c3b0 : decide (x6_1 < (l0.length : Int)) = false := decide_eq_false c3
    clear c3
    simp only [Option.some.injEq, Prod.mk.injEq] at H
    obtain ⟨rfl, rfl⟩ := H
    go_wp2; go_ret2
    exact ⟨by first | rfl | (simp; done) | (simp [*]; done), by repeat (first | exact Drawn0.refl _ | apply Drawn0.step)⟩
   rw [if_pos c3] at H
   have c3b0 : decide (x6_1 < (l0.length : Int)) = true := decide_eq_true c3
   clear c3; by_cases c4 : 0 ≤ x6_1; rotate_left
   · rw [if_neg c4] at H; exact absurd H (by simp)
   rw [if_pos c4] at H
   have c4b0 : decide (0 ≤ x6_1) = true := decide_eq_true c4
   clear c4; by_cases c5 : ((rd_T62 l0 x6_1).f0).toList = a1.toList; rotate_left
   ·
    rw [if_neg c5] at H
    have c5b0 : (((rd_T62 l0 x6_1).f0).toList == a1.toList) = false := beq_eq_false_iff_ne.mpr c5
    have c5b1 : (((rd_T62 l0 x6_1).f0).toList != a1.toList) = true := bne_iff_ne.mpr c5
    have H' := Aside0.mk H; clear H
    have p496 : 0 ≤ (x6_1 : Int) := of_decide_eq_true asm
    have q496 : x6_1 < (l0.length : Int) := of_decide_eq_true asm
    obtain ⟨ad496, e496, hx496_0, hx496_1⟩ := at_T62 HR0.out x6_1 p496 q496
    cases e496; replace p496 := eq_true p496; replace q496 := eq_true q496; go_wp2
    go_roundg k1
    case measure => have := HK1.out; omega
    case rel => exact ⟨(wrap64 (x6_1 + 1)), sR, H', ⟨by have := HK1.out; omega⟩, by repeat (first | exact Drawn0.refl _ | apply Drawn0.step)⟩
   rw [if_pos c5] at H
   have c5b0 : (((rd_T62 l0 x6_1).f0).toList == a1.toList) = true := beq_iff_eq.mpr c5
   have c5b1 : (((rd_T62 l0 x6_1).f0).toList != a1.toList) = false := bne_eq_false_iff_eq.mpr c5
   clear c5
   simp only [Option.some.injEq, Prod.mk.injEq] at H
   obtain ⟨rfl, rfl⟩ := H
   have p496 : 0 ≤ (x6_1 : Int) := of_decide_eq_true asm
   have q496 : x6_1 < (l0.length : Int) := of_decide_eq_true asm
   obtain ⟨ad496, e496, hx496_0, hx496_1⟩ := at_T62 HR0.out x6_1 p496 q496
   cases e496; replace p496 := eq_true p496; replace q496 := eq_true q496
   have p497 : 0 ≤ (x6_1 : Int) := of_decide_eq_true asm
   have q497 : x6_1 < (l0.length : Int) := of_decide_eq_true asm
   obtain ⟨ad497, e497, hx497_0, hx497_1⟩ := at_T62 HR0.out x6_1 p497 q497
   obtain rfl : ad496 = ad497 := (by injection e497)
   replace p497 := eq_true p497; replace q497 := eq_true q497; go_wp2; go_ret2
   exact ⟨by first | rfl | (simp; done) | (simp [*]; done), by repeat (first | exact Drawn0.refl _ | apply Drawn0.step)⟩
def belfryref04_Has.l0 : Nat → ByteArray → ByteArray → Int → Option (Bool)
  | 0, _, _, _ => none
  | k + 1, x0, x1, x5 => if (wrap64 (x5 + (x1.size : Int))) ≤ (x0.size : Int) then (if 0 ≤ x5 then (if x5 ≤ (wrap64 (x5 + (x1.size : Int))) then (if (x0.extract (x5 : Int).toNat ((wrap64 (x5 + (x1.size : Int))) : Int).toNat).toList = x1.toList then (some true) else (belfryref04_Has.l0 k x0 x1 (wrap64 (x5 + 1)))) else (none)) else (none)) else (some false)
def belfryref04_Has.f (k : Nat) (a0 : ByteArray) (a1 : ByteArray) : Option (Bool) := belfryref04_Has.l0 k a0 a1 0
set_option maxHeartbeats 8000000 in
set_option maxRecDepth 100000 in
theorem belfryref04_Has.calls (k : Nat) (a0 : ByteArray) (a1 : ByteArray) (r : Bool) (w : World) (h : belfryref04_Has.f k a0 a1 = some r) :
  Calls Tryz.prog 90 #[.string a0, .string a1] w fun e w' => e = .returned (.bool r) ∧ Drawn0 w w' := by
 have H : (belfryref04_Has.l0 k a0 a1 0) = some r := h
 clear h; have H' := Aside0.mk H; clear H
 go_enter Tryz.func90, Tryz.ntmps90
 go_wp2
 go_loopg [5] k (fun kq v5 w' => ∃ (x5_1 : Int), v5 = .int .i64 x5_1 ∧ Aside0 (belfryref04_Has.l0 kq a0 a1 x5_1 = some r) ∧ Aside0 (kq ≤ k) ∧ Drawn0 w w')
 case atStart => exact ⟨(0), sR, H', ⟨Nat.le_refl _⟩, by repeat (first | exact Drawn0.refl _ | apply Drawn0.step)⟩
 case round =>
  clear H'; (try clear p2)
  obtain ⟨x5_1, rfl, HA, HK1, ⟨m1, rfl⟩⟩ := hrel
  cases gk with
  | zero => exact absurd HA.out (by simp [belfryref04_Has.l0])
  | succ k1 =>
   have H := HA.out; clear HA
   simp only [belfryref04_Has.l0] at H
   by_cases c3 : (wrap64 (x5_1 + (a1.size : Int))) ≤ (a0.size : Int); rotate_left
   ·
    rw [if_neg c3] at H
    have c3b0 : decide ((wrap64 (x5_1 + (a1.size : Int))) ≤ (a0.size : Int)) = false := decide_eq_false c3
    clear c3
    obtain rfl := Option.some.inj H
    go_wp2; go_ret
    exact ⟨by first | rfl | (simp; done) | (simp [*]; done), by repeat (first | exact Drawn0.refl _ | apply Drawn0.step)⟩
   rw [if_pos c3] at H
   have c3b0 : decide ((wrap64 (x5_1 + (a1.size : Int))) ≤ (a0.size : Int)) = true := decide_eq_true c3
   clear c3; by_cases c4 : 0 ≤ x5_1; rotate_left
   · rw [if_neg c4] at H; exact absurd H (by simp)
   rw [if_pos c4] at H; have c4b0 := eq_true c4
   have c4b1 : decide (0 ≤ x5_1) = true := decide_eq_true c4
   clear c4; by_cases c5 : x5_1 ≤ (wrap64 (x5_1 + (a1.size : Int))); rotate_left
   · rw [if_neg c5] at H; exact absurd H (by simp)
   rw [if_pos c5] at H; have c5b0 := eq_true c5
   have c5b1 : decide (x5_1 ≤ (wrap64 (x5_1 + (a1.size : Int)))) = true := decide_eq_true c5
   have c6b0 := eq_true (of_decide_eq_true asm : (wrap64 (x5_1 + (a1.size : Int))) ≤ (a0.size : Int)); by_cases c7 : (a0.extract (x5_1 : Int).toNat ((wrap64 (x5_1 + (a1.size : Int))) : Int).toNat).toList = a1.toList
   ·
    rw [if_pos c7] at H
    have c7b0 : ((a0.extract (x5_1 : Int).toNat ((wrap64 (x5_1 + (a1.size : Int))) : Int).toNat).toList == a1.toList) = true := beq_iff_eq.mpr c7
    have c7b1 : ((a0.extract (x5_1 : Int).toNat ((wrap64 (x5_1 + (a1.size : Int))) : Int).toNat).toList != a1.toList) = false := bne_eq_false_iff_eq.mpr c7
    clear c7
    obtain rfl := Option.some.inj H
    go_wp2; go_ret
    exact ⟨by first | rfl | (simp; done) | (simp [*]; done), by repeat (first | exact Drawn0.refl _ | apply Drawn0.step)⟩
   rw [if_neg c7] at H
   have c7b0 : ((a0.extract (x5_1 : Int).toNat ((wrap64 (x5_1 + (a1.size : Int))) : Int).toNat).toList == a1.toList) = false := beq_eq_false_iff_ne.mpr c7
   have c7b1 : ((a0.extract (x5_1 : Int).toNat ((wrap64 (x5_1 + (a1.size : Int))) : Int).toNat).toList != a1.toList) = true := bne_iff_ne.mpr c7
   have H' := Aside0.mk H; clear H; go_wp2
   go_roundg k1
   case measure => have := HK1.out; omega
   case rel => exact ⟨(wrap64 (x5_1 + 1)), sR, H', ⟨by have := HK1.out; omega⟩, by repeat (first | exact Drawn0.refl _ | apply Drawn0.step)⟩
def belfryref04_Holds.f (k : Nat) (a0_0 : Int) (a0_1 : ByteArray) (a0_2 : ByteArray) (a1 : ByteArray) : Option (Bool) := if a0_0 = 1 then (some (a1.toList == a0_2.toList)) else (if a0_0 = 2 then (some (a1.toList != a0_2.toList)) else (if a0_0 = 3 then ((belfryref04_Has.f k a1 a0_2).bind fun t499 => (some t499)) else (if a0_0 = 4 then ((belfryref04_Has.f k a1 a0_2).bind fun t500 => (some (!t500))) else (some false))))
set_option maxHeartbeats 8000000 in
set_option maxRecDepth 100000 in
theorem belfryref04_Holds.calls (k : Nat) (a0_0 : Int) (a0_1 : ByteArray) (a0_2 : ByteArray) (a1 : ByteArray) (r : Bool) (w : World) (h : belfryref04_Holds.f k a0_0 a0_1 a0_2 a1 = some r) :
  Calls Tryz.prog 61 #[.agg #[.int .i64 a0_0, .string a0_1, .string a0_2], .string a1] w fun e w' => e = .returned (.bool r) ∧ Below w.heap.size w w' := by
 have hu33 := Tryz.underlying33; have HB := Aside0.mk (Below.refl w.heap.size w)
 have H : (if a0_0 = 1 then (some (a1.toList == a0_2.toList)) else (if a0_0 = 2 then (some (a1.toList != a0_2.toList)) else (if a0_0 = 3 then ((belfryref04_Has.f k a1 a0_2).bind fun t499 => (some t499)) else (if a0_0 = 4 then ((belfryref04_Has.f k a1 a0_2).bind fun t500 => (some (!t500))) else (some false))))) = some r := h
 clear h; by_cases c3 : a0_0 = 1
 ·
  rw [if_pos c3] at H
  have c3b0 : (a0_0 == 1) = true := beq_iff_eq.mpr c3
  have c3b1 : (a0_0 != 1) = false := bne_eq_false_iff_eq.mpr c3
  clear c3
  obtain rfl := Option.some.inj H
  go_enter Tryz.func61, Tryz.ntmps61
  go_wp2_with (first | ((with_reducible refine gate_dst (N := 2) rfl ?_); refine box_event ?hg (N := 2) ?hd (cs := #[.int .i64 a0_0, .string a0_1, .string a0_2]) (t := 33) ?hr ?_; (case hd => rfl); (case hg => rfl); (case hr => first | (go_simp; done) | (go_simp; rfl)); intro gb498 hg w4 hbox hb; have n0_ := Aside0.mk (below_step bO hb); have n1_ := Aside0.mk (hbox); have n2_ := Aside0.mk ((by rw [hg]; exact (below_size bO) : w.heap.size ≤ gb498)); have n3_ := Aside0.mk ((by rw [hg]; exact (below_size bO) : w.heap.size ≤ gb498)); clear HB; have HB := n0_; have BK498 := n1_; have GW498 := n2_; have GE498 := n3_; clear n0_ n1_ n2_ n3_; clear hb hbox hg; have hcz5_0 : w4.cell? ⟨gb498, 0, none⟩ = some (.int .i64 a0_0) := (blk_cell BK498.out 0).trans rfl; have hcz5_1 : w4.cell? ⟨gb498, 1, none⟩ = some (.string a0_1) := (blk_cell BK498.out 1).trans rfl; have hcz5_2 : w4.cell? ⟨gb498, 2, none⟩ = some (.string a0_2) := (blk_cell BK498.out 2).trans rfl; have hfz5_0 := blk_frozen BK498.out 0; have hfz5_1 := blk_frozen BK498.out 1; have hfz5_2 := blk_frozen BK498.out 2))
  go_ret
  exact ⟨eR, bO⟩
 rw [if_neg c3] at H
 have c3b0 : (a0_0 == 1) = false := beq_eq_false_iff_ne.mpr c3
 have c3b1 : (a0_0 != 1) = true := bne_iff_ne.mpr c3
 by_cases c6 : a0_0 = 2
 ·
  rw [if_pos c6] at H
  have c6b0 : (a0_0 == 2) = true := beq_iff_eq.mpr c6
  have c6b1 : (a0_0 != 2) = false := bne_eq_false_iff_eq.mpr c6
  clear c6
  obtain rfl := Option.some.inj H
  go_enter Tryz.func61, Tryz.ntmps61
  go_wp2_with (first | ((with_reducible refine gate_dst (N := 2) rfl ?_); refine box_event ?hg (N := 2) ?hd (cs := #[.int .i64 a0_0, .string a0_1, .string a0_2]) (t := 33) ?hr ?_; (case hd => rfl); (case hg => rfl); (case hr => first | (go_simp; done) | (go_simp; rfl)); intro gb498 hg w7 hbox hb; have n0_ := Aside0.mk (below_step bO hb); have n1_ := Aside0.mk (hbox); have n2_ := Aside0.mk ((by rw [hg]; exact (below_size bO) : w.heap.size ≤ gb498)); have n3_ := Aside0.mk ((by rw [hg]; exact (below_size bO) : w.heap.size ≤ gb498)); clear HB; have HB := n0_; have BK498 := n1_; have GW498 := n2_; have GE498 := n3_; clear n0_ n1_ n2_ n3_; clear hb hbox hg; have hcz8_0 : w7.cell? ⟨gb498, 0, none⟩ = some (.int .i64 a0_0) := (blk_cell BK498.out 0).trans rfl; have hcz8_1 : w7.cell? ⟨gb498, 1, none⟩ = some (.string a0_1) := (blk_cell BK498.out 1).trans rfl; have hcz8_2 : w7.cell? ⟨gb498, 2, none⟩ = some (.string a0_2) := (blk_cell BK498.out 2).trans rfl; have hfz8_0 := blk_frozen BK498.out 0; have hfz8_1 := blk_frozen BK498.out 1; have hfz8_2 := blk_frozen BK498.out 2))
  go_ret
  exact ⟨eR, bO⟩
 rw [if_neg c6] at H
 have c6b0 : (a0_0 == 2) = false := beq_eq_false_iff_ne.mpr c6
 have c6b1 : (a0_0 != 2) = true := bne_iff_ne.mpr c6
 by_cases c9 : a0_0 = 3
 ·
  rw [if_pos c9] at H
  have c9b0 : (a0_0 == 3) = true := beq_iff_eq.mpr c9
  have c9b1 : (a0_0 != 3) = false := bne_eq_false_iff_eq.mpr c9
  clear c9
  replace H := Option.bind_eq_some_iff.mp H
  obtain ⟨t499, A100, H⟩ := H
  replace H : (some t499) = some r := H
  have A10 := Aside0.mk A100; clear A100
  obtain rfl := Option.some.inj H
  go_enter Tryz.func61, Tryz.ntmps61
  go_wp2_with (first | ((with_reducible refine gate_dst (N := 2) rfl ?_); refine box_event ?hg (N := 2) ?hd (cs := #[.int .i64 a0_0, .string a0_1, .string a0_2]) (t := 33) ?hr ?_; (case hd => rfl); (case hg => rfl); (case hr => first | (go_simp; done) | (go_simp; rfl)); intro gb498 hg w11 hbox hb; have n0_ := Aside0.mk (below_step bO hb); have n1_ := Aside0.mk (hbox); have n2_ := Aside0.mk ((by rw [hg]; exact (below_size bO) : w.heap.size ≤ gb498)); have n3_ := Aside0.mk ((by rw [hg]; exact (below_size bO) : w.heap.size ≤ gb498)); clear HB; have HB := n0_; have BK498 := n1_; have GW498 := n2_; have GE498 := n3_; clear n0_ n1_ n2_ n3_; clear hb hbox hg; have hcz12_0 : w11.cell? ⟨gb498, 0, none⟩ = some (.int .i64 a0_0) := (blk_cell BK498.out 0).trans rfl; have hcz12_1 : w11.cell? ⟨gb498, 1, none⟩ = some (.string a0_1) := (blk_cell BK498.out 1).trans rfl; have hcz12_2 : w11.cell? ⟨gb498, 2, none⟩ = some (.string a0_2) := (blk_cell BK498.out 2).trans rfl; have hfz12_0 := blk_frozen BK498.out 0; have hfz12_1 := blk_frozen BK498.out 1; have hfz12_2 := blk_frozen BK498.out 2) | ((with_reducible refine gate_callee (f := 90) rfl ?_); refine goesL_ (some 24) rfl rfl Tryz.func90 (by kernel_rfl) rfl #[.string a1, .string a0_2] rfl lR ?_; (with_reducible refine (belfryref04_Has.calls k a1 a0_2 t499 _ A10.out).mono ?_); rintro e w' ⟨rfl, ⟨nd, rfl⟩⟩; refine ⟨_, rfl, ?_⟩))
  go_ret
  exact ⟨eR, bO⟩
 rw [if_neg c9] at H
 have c9b0 : (a0_0 == 3) = false := beq_eq_false_iff_ne.mpr c9
 have c9b1 : (a0_0 != 3) = true := bne_iff_ne.mpr c9
 by_cases c13 : a0_0 = 4; rotate_left
 ·
  rw [if_neg c13] at H
  have c13b0 : (a0_0 == 4) = false := beq_eq_false_iff_ne.mpr c13
  have c13b1 : (a0_0 != 4) = true := bne_iff_ne.mpr c13
  obtain rfl := Option.some.inj H
  go_enter Tryz.func61, Tryz.ntmps61
  go_wp2_with (first | ((with_reducible refine gate_dst (N := 2) rfl ?_); refine box_event ?hg (N := 2) ?hd (cs := #[.int .i64 a0_0, .string a0_1, .string a0_2]) (t := 33) ?hr ?_; (case hd => rfl); (case hg => rfl); (case hr => first | (go_simp; done) | (go_simp; rfl)); intro gb498 hg w17 hbox hb; have n0_ := Aside0.mk (below_step bO hb); have n1_ := Aside0.mk (hbox); have n2_ := Aside0.mk ((by rw [hg]; exact (below_size bO) : w.heap.size ≤ gb498)); have n3_ := Aside0.mk ((by rw [hg]; exact (below_size bO) : w.heap.size ≤ gb498)); clear HB; have HB := n0_; have BK498 := n1_; have GW498 := n2_; have GE498 := n3_; clear n0_ n1_ n2_ n3_; clear hb hbox hg; have hcz18_0 : w17.cell? ⟨gb498, 0, none⟩ = some (.int .i64 a0_0) := (blk_cell BK498.out 0).trans rfl; have hcz18_1 : w17.cell? ⟨gb498, 1, none⟩ = some (.string a0_1) := (blk_cell BK498.out 1).trans rfl; have hcz18_2 : w17.cell? ⟨gb498, 2, none⟩ = some (.string a0_2) := (blk_cell BK498.out 2).trans rfl; have hfz18_0 := blk_frozen BK498.out 0; have hfz18_1 := blk_frozen BK498.out 1; have hfz18_2 := blk_frozen BK498.out 2))
  go_ret
  exact ⟨eR, bO⟩
 rw [if_pos c13] at H
 have c13b0 : (a0_0 == 4) = true := beq_iff_eq.mpr c13
 have c13b1 : (a0_0 != 4) = false := bne_eq_false_iff_eq.mpr c13
 clear c13
 replace H := Option.bind_eq_some_iff.mp H
 obtain ⟨t500, A140, H⟩ := H
 replace H : (some (!t500)) = some r := H
 have A14 := Aside0.mk A140; clear A140
 obtain rfl := Option.some.inj H
 go_enter Tryz.func61, Tryz.ntmps61
 go_wp2_with (first | ((with_reducible refine gate_dst (N := 2) rfl ?_); refine box_event ?hg (N := 2) ?hd (cs := #[.int .i64 a0_0, .string a0_1, .string a0_2]) (t := 33) ?hr ?_; (case hd => rfl); (case hg => rfl); (case hr => first | (go_simp; done) | (go_simp; rfl)); intro gb498 hg w15 hbox hb; have n0_ := Aside0.mk (below_step bO hb); have n1_ := Aside0.mk (hbox); have n2_ := Aside0.mk ((by rw [hg]; exact (below_size bO) : w.heap.size ≤ gb498)); have n3_ := Aside0.mk ((by rw [hg]; exact (below_size bO) : w.heap.size ≤ gb498)); clear HB; have HB := n0_; have BK498 := n1_; have GW498 := n2_; have GE498 := n3_; clear n0_ n1_ n2_ n3_; clear hb hbox hg; have hcz16_0 : w15.cell? ⟨gb498, 0, none⟩ = some (.int .i64 a0_0) := (blk_cell BK498.out 0).trans rfl; have hcz16_1 : w15.cell? ⟨gb498, 1, none⟩ = some (.string a0_1) := (blk_cell BK498.out 1).trans rfl; have hcz16_2 : w15.cell? ⟨gb498, 2, none⟩ = some (.string a0_2) := (blk_cell BK498.out 2).trans rfl; have hfz16_0 := blk_frozen BK498.out 0; have hfz16_1 := blk_frozen BK498.out 1; have hfz16_2 := blk_frozen BK498.out 2) | ((with_reducible refine gate_callee (f := 90) rfl ?_); refine goesL_ (some 30) rfl rfl Tryz.func90 (by kernel_rfl) rfl #[.string a1, .string a0_2] rfl lR ?_; (with_reducible refine (belfryref04_Has.calls k a1 a0_2 t500 _ A14.out).mono ?_); rintro e w' ⟨rfl, ⟨nd, rfl⟩⟩; refine ⟨_, rfl, ?_⟩))
 go_ret
 exact ⟨eR, bO⟩
end Go.Proofs.YtkedidjjhhjdbaaGreatDoor.Pr
end
section
namespace Go.Proofs.YtkedidjjhhjdbaaGreatDoor.Pr
open Go.RowKit Go.Proofs.YtkedidjjhhjdbaaGreatDoorW.PrintWords Go.Proofs.YtkedidjjhhjdbaaGreatDoorW.PrintLast Go.Proofs.YtkedidjjhhjdbaaGreatDoorW.PrintMore
attribute [local go_sem] max2_int min2_int max_two min_two max_three min_three max_four min_four strGtr strLeq strGeq
set_option linter.unusedVariables false
set_option linter.unusedSimpArgs false
attribute [local go_sem high] eqA62
def belfryref04_Fits.l0 : Nat → List (S62) → List (S33) → Int → Option (Bool)
  | 0, _, _, _ => none
  | k + 1, x0, x1, x5 => if x5 < (x1.length : Int) then (if 0 ≤ x5 then ((belfryref04_Get.f k x0 ((rd_T33 x1 x5).f1)).bind fun bt502 => ((belfryref04_Holds.f k ((rd_T33 x1 x5).f0) ((rd_T33 x1 x5).f1) ((rd_T33 x1 x5).f2) bt502.1).bind fun t505 => (if t505 = true then (belfryref04_Fits.l0 k x0 x1 (wrap64 (x5 + 1))) else (some false)))) else (none)) else (some true)
def belfryref04_Fits.f (k : Nat) (l0 : List (S62)) (l1 : List (S33)) : Option (Bool) := belfryref04_Fits.l0 k l0 l1 0
set_option maxHeartbeats 8000000 in
set_option maxRecDepth 100000 in
theorem belfryref04_Fits.calls (k : Nat) (A0 : Option Addr) (c0 : Nat) (l0 : List (S62)) (A1 : Option Addr) (c1 : Nat) (l1 : List (S33)) (r : Bool) (w : World) (hr0 : Kd.C k62 w A0 l0.length l0) (hc0 : l0.length ≤ c0) (hr1 : Kd.C k33 w A1 l1.length l1) (hc1 : l1.length ≤ c1) (h : belfryref04_Fits.f k l0 l1 = some r) :
  Calls Tryz.prog 29 #[.slice A0 l0.length c0, .slice A1 l1.length c1] w fun e w' => e = .returned (.bool r) ∧ Below w.heap.size w w' := by
 have hu33 := Tryz.underlying33; have HR0 := Aside0.mk hr0; have HC0 := Aside0.mk hc0; clear hr0 hc0; have HR1 := Aside0.mk hr1; have HC1 := Aside0.mk hc1; clear hr1 hc1; have HB := Aside0.mk (Below.refl w.heap.size w)
 have H : (belfryref04_Fits.l0 k l0 l1 0) = some r := h
 clear h; have H' := Aside0.mk H; clear H
 go_enter Tryz.func29, Tryz.ntmps29
 go_wp2
 go_loopg [5] k (fun kq v5 w' => ∃ (x5_1 : Int), v5 = .int .i64 x5_1 ∧ Aside0 (belfryref04_Fits.l0 kq l0 l1 x5_1 = some r) ∧ Aside0 (kq ≤ k) ∧ Aside0 (Below w.heap.size w w'))
 case atStart => exact ⟨(0), sR, H', ⟨Nat.le_refl _⟩, ⟨bO⟩⟩
 case round =>
  clear H'; (try clear c1); (try clear c2); (try clear p2)
  obtain ⟨x5_1, rfl, HA, HK1, HB⟩ := hrel
  cases gk with
  | zero => exact absurd HA.out (by simp [belfryref04_Fits.l0])
  | succ k1 =>
   have H := HA.out; clear HA
   simp only [belfryref04_Fits.l0] at H
   by_cases c3 : x5_1 < (l1.length : Int); rotate_left
   ·
    rw [if_neg c3] at H
    have c3b0 : decide (x5_1 < (l1.length : Int)) = false := decide_eq_false c3
    clear c3
    obtain rfl := Option.some.inj H
    go_wp2; go_ret
    exact ⟨eR, bO⟩
   rw [if_pos c3] at H
   have c3b0 : decide (x5_1 < (l1.length : Int)) = true := decide_eq_true c3
   clear c3; by_cases c4 : 0 ≤ x5_1; rotate_left
   · rw [if_neg c4] at H; exact absurd H (by simp)
   rw [if_pos c4] at H
   have c4b0 : decide (0 ≤ x5_1) = true := decide_eq_true c4
   clear c4
   replace H := Option.bind_eq_some_iff.mp H
   obtain ⟨⟨t502, t503⟩, A50, H⟩ := H
   replace H : ((belfryref04_Holds.f k1 ((rd_T33 l1 x5_1).f0) ((rd_T33 l1 x5_1).f1) ((rd_T33 l1 x5_1).f2) t502).bind fun t505 => (if t505 = true then (belfryref04_Fits.l0 k1 l0 l1 (wrap64 (x5_1 + 1))) else (some false))) = some r := H
   have A5 := Aside0.mk A50; clear A50
   replace H := Option.bind_eq_some_iff.mp H
   obtain ⟨t505, A60, H⟩ := H
   replace H : (if t505 = true then (belfryref04_Fits.l0 k1 l0 l1 (wrap64 (x5_1 + 1))) else (some false)) = some r := H
   have A6 := Aside0.mk A60; clear A60; by_cases c7 : t505 = true; rotate_left
   ·
    replace c7 := Bool.eq_false_iff.mpr c7
    subst c7
    have H1 : (some false) = some r := by rw [if_neg (show ¬ (false = true) by decide)] at H; exact H
    clear H; have H := H1; clear H1
    obtain rfl := Option.some.inj H
    have p501 : 0 ≤ (x5_1 : Int) := of_decide_eq_true asm
    have q501 : x5_1 < (l1.length : Int) := of_decide_eq_true asm
    obtain ⟨ad501, e501, hx501_0, hx501_1, hx501_2⟩ := at_T33 HR1.out x5_1 p501 q501
    cases e501
    replace hx501_0 := bC HB hx501_0
    replace hx501_1 := bC HB hx501_1
    replace hx501_2 := bC HB hx501_2
    replace p501 := eq_true p501; replace q501 := eq_true q501
    go_wp2_with (first | ((with_reducible refine gate_callee (f := 60) rfl ?_); refine goesL_ (some 21) rfl rfl Tryz.func60 (by kernel_rfl) rfl #[.slice A0 l0.length c0, .string ((rd_T33 l1 x5_1).f1)] rfl lR ?_; (with_reducible refine (belfryref04_Get.calls k1 _ _ l0 ((rd_T33 l1 x5_1).f1) t502 t503 _ ?side1 ?side2 A5.out).mono ?_); (case side1 => repeat (first | exact (Kd.C_below HR0.out HB.out) | (with_reducible refine Kd.C_alloc ?_ _) | (with_reducible refine Kd.C_drewN ?_ _) | (with_reducible refine Kd.C_drew ?_))); (case side2 => exact HC0.out); rintro e w' ⟨rfl, ⟨nd, rfl⟩⟩; refine ⟨_, rfl, ?_⟩; have p504 : 0 ≤ (x5_1 : Int) := of_decide_eq_true asm; have q504 : x5_1 < (l1.length : Int) := of_decide_eq_true asm; obtain ⟨ad504, e504, hx504_0, hx504_1, hx504_2⟩ := at_T33 HR1.out x5_1 p504 q504; obtain rfl : ad501 = ad504 := (by injection e504); replace hx504_0 := bC HB hx504_0; replace hx504_1 := bC HB hx504_1; replace hx504_2 := bC HB hx504_2; replace p504 := eq_true p504; replace q504 := eq_true q504) | ((with_reducible refine gate_callee (f := 61) rfl ?_); refine goesL_ (some 29) rfl rfl Tryz.func61 (by kernel_rfl) rfl #[.agg #[.int .i64 ((rd_T33 l1 x5_1).f0), .string ((rd_T33 l1 x5_1).f1), .string ((rd_T33 l1 x5_1).f2)], .string t502] rfl lR ?_; (with_reducible refine (belfryref04_Holds.calls k1 ((rd_T33 l1 x5_1).f0) ((rd_T33 l1 x5_1).f1) ((rd_T33 l1 x5_1).f2) t502 false _ A6.out).mono ?_); rintro e w9 ⟨rfl, hb⟩; refine ⟨_, rfl, ?_⟩; have n0_ := Aside0.mk (below_step bO hb); clear HB; have HB := n0_; clear n0_; (try clear hb); (try clear hb2); (try clear hk); (try clear hi)))
    go_ret
    exact ⟨eR, bO⟩
   subst c7
   have H1 : (belfryref04_Fits.l0 k1 l0 l1 (wrap64 (x5_1 + 1))) = some r := by rw [if_pos rfl] at H; exact H
   clear H; have H := H1; clear H1; have H' := Aside0.mk H; clear H
   have p501 : 0 ≤ (x5_1 : Int) := of_decide_eq_true asm
   have q501 : x5_1 < (l1.length : Int) := of_decide_eq_true asm
   obtain ⟨ad501, e501, hx501_0, hx501_1, hx501_2⟩ := at_T33 HR1.out x5_1 p501 q501
   cases e501
   replace hx501_0 := bC HB hx501_0
   replace hx501_1 := bC HB hx501_1
   replace hx501_2 := bC HB hx501_2
   replace p501 := eq_true p501; replace q501 := eq_true q501
   go_wp2_with (first | ((with_reducible refine gate_callee (f := 60) rfl ?_); refine goesL_ (some 21) rfl rfl Tryz.func60 (by kernel_rfl) rfl #[.slice A0 l0.length c0, .string ((rd_T33 l1 x5_1).f1)] rfl lR ?_; (with_reducible refine (belfryref04_Get.calls k1 _ _ l0 ((rd_T33 l1 x5_1).f1) t502 t503 _ ?side1 ?side2 A5.out).mono ?_); (case side1 => repeat (first | exact (Kd.C_below HR0.out HB.out) | (with_reducible refine Kd.C_alloc ?_ _) | (with_reducible refine Kd.C_drewN ?_ _) | (with_reducible refine Kd.C_drew ?_))); (case side2 => exact HC0.out); rintro e w' ⟨rfl, ⟨nd, rfl⟩⟩; refine ⟨_, rfl, ?_⟩; have p504 : 0 ≤ (x5_1 : Int) := of_decide_eq_true asm; have q504 : x5_1 < (l1.length : Int) := of_decide_eq_true asm; obtain ⟨ad504, e504, hx504_0, hx504_1, hx504_2⟩ := at_T33 HR1.out x5_1 p504 q504; obtain rfl : ad501 = ad504 := (by injection e504); replace hx504_0 := bC HB hx504_0; replace hx504_1 := bC HB hx504_1; replace hx504_2 := bC HB hx504_2; replace p504 := eq_true p504; replace q504 := eq_true q504) | ((with_reducible refine gate_callee (f := 61) rfl ?_); refine goesL_ (some 29) rfl rfl Tryz.func61 (by kernel_rfl) rfl #[.agg #[.int .i64 ((rd_T33 l1 x5_1).f0), .string ((rd_T33 l1 x5_1).f1), .string ((rd_T33 l1 x5_1).f2)], .string t502] rfl lR ?_; (with_reducible refine (belfryref04_Holds.calls k1 ((rd_T33 l1 x5_1).f0) ((rd_T33 l1 x5_1).f1) ((rd_T33 l1 x5_1).f2) t502 true _ A6.out).mono ?_); rintro e w8 ⟨rfl, hb⟩; refine ⟨_, rfl, ?_⟩; have n0_ := Aside0.mk (below_step bO hb); clear HB; have HB := n0_; clear n0_; (try clear hb); (try clear hb2); (try clear hk); (try clear hi)))
   go_roundg k1
   case measure => have := HK1.out; omega
   case rel => exact ⟨(wrap64 (x5_1 + 1)), sR, H', ⟨by have := HK1.out; omega⟩, ⟨bO⟩⟩
def belfryref04_Same.l0 : Nat → List (S62) → List (S62) → Int → Option (Bool)
  | 0, _, _, _ => none
  | k + 1, x0, x1, x5 => if x5 < (x0.length : Int) then (if 0 ≤ x5 then (if x5 < (x1.length : Int) then (if (!((((rd_T62 x0 x5).f0).toList) == (((rd_T62 x1 x5).f0).toList)) || (!((((rd_T62 x0 x5).f1).toList) == (((rd_T62 x1 x5).f1).toList)))) = true then (some false) else (belfryref04_Same.l0 k x0 x1 (wrap64 (x5 + 1)))) else (none)) else (none)) else (some true)
def belfryref04_Same.f (k : Nat) (l0 : List (S62)) (l1 : List (S62)) : Option (Bool) := if (l0.length : Int) = (l1.length : Int) then (belfryref04_Same.l0 k l0 l1 0) else (some false)
set_option maxHeartbeats 8000000 in
set_option maxRecDepth 100000 in
theorem belfryref04_Same.calls (k : Nat) (A0 : Option Addr) (c0 : Nat) (l0 : List (S62)) (A1 : Option Addr) (c1 : Nat) (l1 : List (S62)) (r : Bool) (w : World) (hr0 : Kd.C k62 w A0 l0.length l0) (hc0 : l0.length ≤ c0) (hr1 : Kd.C k62 w A1 l1.length l1) (hc1 : l1.length ≤ c1) (h : belfryref04_Same.f k l0 l1 = some r) :
  Calls Tryz.prog 59 #[.slice A0 l0.length c0, .slice A1 l1.length c1] w fun e w' => e = .returned (.bool r) ∧ Drawn0 w w' := by
 have hu62 := Tryz.underlying62; have HR0 := Aside0.mk hr0; have HC0 := Aside0.mk hc0; clear hr0 hc0; have HR1 := Aside0.mk hr1; have HC1 := Aside0.mk hc1; clear hr1 hc1
 have H : (if (l0.length : Int) = (l1.length : Int) then (belfryref04_Same.l0 k l0 l1 0) else (some false)) = some r := h
 clear h; by_cases c3 : (l0.length : Int) = (l1.length : Int); rotate_left
 ·
  rw [if_neg c3] at H
  have c3b0 : ((l0.length : Int) == (l1.length : Int)) = false := beq_eq_false_iff_ne.mpr c3
  have c3b1 : ((l0.length : Int) != (l1.length : Int)) = true := bne_iff_ne.mpr c3
  have c3b2 : (l0.length == l1.length) = false := by first | simpa using c3 | (simp at c3 ⊢; omega)
  obtain rfl := Option.some.inj H
  go_enter Tryz.func59, Tryz.ntmps59
  go_wp2
  repeat (go_quiet (fail); try go_wp2)
  go_ret
  exact ⟨by first | rfl | (simp; done) | (simp [*]; done), by repeat (first | exact Drawn0.refl _ | apply Drawn0.step)⟩
 rw [if_pos c3] at H
 have c3b0 : ((l0.length : Int) == (l1.length : Int)) = true := beq_iff_eq.mpr c3
 have c3b1 : ((l0.length : Int) != (l1.length : Int)) = false := bne_eq_false_iff_eq.mpr c3
 have c3b2 : (l0.length == l1.length) = true := by first | simpa using c3 | (simp at c3 ⊢; omega)
 clear c3; have H' := Aside0.mk H; clear H
 go_enter Tryz.func59, Tryz.ntmps59
 go_wp2
 repeat (go_quiet (fail); try go_wp2)
 go_loopg [5] k (fun kq v5 w' => ∃ (x5_1 : Int), v5 = .int .i64 x5_1 ∧ Aside0 (belfryref04_Same.l0 kq l0 l1 x5_1 = some r) ∧ Aside0 (kq ≤ k) ∧ Drawn0 w w')
 case atStart => exact ⟨(0), sR, H', ⟨Nat.le_refl _⟩, by repeat (first | exact Drawn0.refl _ | apply Drawn0.step)⟩
 case round =>
  clear H'; (try clear c1); (try clear p2); (try clear c3); (try clear c3b0); (try clear c3b1); (try clear c3b2)
  obtain ⟨x5_1, rfl, HA, HK1, ⟨m1, rfl⟩⟩ := hrel
  cases gk with
  | zero => exact absurd HA.out (by simp [belfryref04_Same.l0])
  | succ k1 =>
   have H := HA.out; clear HA
   simp only [belfryref04_Same.l0] at H
   by_cases c4 : x5_1 < (l0.length : Int); rotate_left
   ·
    rw [if_neg c4] at H
    have c4b0 : decide (x5_1 < (l0.length : Int)) = false := decide_eq_false c4
    clear c4
    obtain rfl := Option.some.inj H
    go_wp2
    repeat (go_quiet (fail); try go_wp2)
    go_ret
    exact ⟨by first | rfl | (simp; done) | (simp [*]; done), by repeat (first | exact Drawn0.refl _ | apply Drawn0.step)⟩
   rw [if_pos c4] at H
   have c4b0 : decide (x5_1 < (l0.length : Int)) = true := decide_eq_true c4
   clear c4; by_cases c5 : 0 ≤ x5_1; rotate_left
   · rw [if_neg c5] at H; exact absurd H (by simp)
   rw [if_pos c5] at H
   have c5b0 : decide (0 ≤ x5_1) = true := decide_eq_true c5
   clear c5; by_cases c6 : x5_1 < (l1.length : Int); rotate_left
   · rw [if_neg c6] at H; exact absurd H (by simp)
   rw [if_pos c6] at H
   have c6b0 : decide (x5_1 < (l1.length : Int)) = true := decide_eq_true c6
   clear c6; by_cases c7 : (!((((rd_T62 l0 x5_1).f0).toList) == (((rd_T62 l1 x5_1).f0).toList)) || (!((((rd_T62 l0 x5_1).f1).toList) == (((rd_T62 l1 x5_1).f1).toList)))) = true
   ·
    rw [if_pos c7] at H
    have c7b0 : (!((((rd_T62 l0 x5_1).f0).toList) == (((rd_T62 l1 x5_1).f0).toList)) || (!((((rd_T62 l0 x5_1).f1).toList) == (((rd_T62 l1 x5_1).f1).toList)))) = true := c7
    clear c7
    obtain rfl := Option.some.inj H
    have p512 : 0 ≤ (x5_1 : Int) := of_decide_eq_true asm
    have q512 : x5_1 < (l0.length : Int) := of_decide_eq_true asm
    obtain ⟨ad512, e512, hx512_0, hx512_1⟩ := at_T62 HR0.out x5_1 p512 q512
    cases e512; replace p512 := eq_true p512; replace q512 := eq_true q512
    have p513 : 0 ≤ (x5_1 : Int) := of_decide_eq_true asm
    have q513 : x5_1 < (l1.length : Int) := of_decide_eq_true asm
    obtain ⟨ad513, e513, hx513_0, hx513_1⟩ := at_T62 HR1.out x5_1 p513 q513
    cases e513; replace p513 := eq_true p513; replace q513 := eq_true q513; go_wp2
    repeat (go_quiet (fail); try go_wp2)
    go_ret
    exact ⟨by first | rfl | (simp; done) | (simp [*]; done), by repeat (first | exact Drawn0.refl _ | apply Drawn0.step)⟩
   rw [if_neg c7] at H
   have c7b0 : (!((((rd_T62 l0 x5_1).f0).toList) == (((rd_T62 l1 x5_1).f0).toList)) || (!((((rd_T62 l0 x5_1).f1).toList) == (((rd_T62 l1 x5_1).f1).toList)))) = false := by simpa using c7
   clear c7; have H' := Aside0.mk H; clear H
   have p512 : 0 ≤ (x5_1 : Int) := of_decide_eq_true asm
   have q512 : x5_1 < (l0.length : Int) := of_decide_eq_true asm
   obtain ⟨ad512, e512, hx512_0, hx512_1⟩ := at_T62 HR0.out x5_1 p512 q512
   cases e512; replace p512 := eq_true p512; replace q512 := eq_true q512
   have p513 : 0 ≤ (x5_1 : Int) := of_decide_eq_true asm
   have q513 : x5_1 < (l1.length : Int) := of_decide_eq_true asm
   obtain ⟨ad513, e513, hx513_0, hx513_1⟩ := at_T62 HR1.out x5_1 p513 q513
   cases e513; replace p513 := eq_true p513; replace q513 := eq_true q513; go_wp2
   repeat (go_quiet (fail); try go_wp2)
   go_roundg k1
   case measure => have := HK1.out; omega
   case rel => exact ⟨(wrap64 (x5_1 + 1)), sR, H', ⟨by have := HK1.out; omega⟩, by repeat (first | exact Drawn0.refl _ | apply Drawn0.step)⟩
end Go.Proofs.YtkedidjjhhjdbaaGreatDoor.Pr
end
