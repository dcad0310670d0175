import Derived.Test.YtnfanpjfhdlddaaGreatDoorQPicks8
import Derived.Test.YtnfanpjfhdlddaaGreatDoorQPicks6
import Derived.Test.YtnfanpjfhdlddaaGreatDoorQPicks7
import Derived.Test.YtnfanpjfhdlddaaGreatDoorQPicks5
import Derived.Test.YtnfanpjfhdlddaaGreatDoorQPicks9
import Derived.Test.YtnfanpjfhdlddaaGreatDoorQPicks3
section
set_option linter.unusedVariables false
set_option linter.unusedSimpArgs false
namespace Go.Proofs.YtnfanpjfhdlddaaGreatDoor.Pr
open Go.RowKit Go.Proofs.YtnfanpjfhdlddaaGreatDoorW.PrintWords Go.Proofs.YtnfanpjfhdlddaaGreatDoorW.PrintLast Go.Proofs.YtnfanpjfhdlddaaGreatDoorW.PrintMore
attribute [local go_sem high] eqA45
def cmpAttr (x y : S45) : Int := if x.f0.data.toList = y.f0.data.toList then Lib.compareBytes x.f1.data.toList y.f1.data.toList else Lib.compareBytes x.f0.data.toList y.f0.data.toList
def attr_Cmp_1.f (a0_0 a0_1 a1_0 a1_1 : ByteArray) : Option Int := some (cmpAttr ⟨a0_0, a0_1⟩ ⟨a1_0, a1_1⟩)
theorem toList_data (a : ByteArray) : a.toList = a.data.toList := by rw [ByteArray.toList_eq]
set_option maxHeartbeats 4000000 in
set_option maxRecDepth 100000 in
theorem attr_Cmp_1.calls (a0_0 a0_1 a1_0 a1_1 : ByteArray) (r : Int) (w : World) (h : attr_Cmp_1.f a0_0 a0_1 a1_0 a1_1 = some r) :
  Calls Tryz.prog 43 #[.agg #[.string a0_0, .string a0_1], .agg #[.string a1_0, .string a1_1]] w fun e w' => e = .returned (.int .i64 r) ∧ Below w.heap.size w w' := by
 have hu45 := Tryz.underlying45
 obtain rfl := Option.some.inj h
 clear h
 unfold cmpAttr
 simp only
 have hcon := fun (a b : ByteArray) W' => Tryz.strings_Compare a b W'
 by_cases h0 : a0_0.data.toList = a1_0.data.toList
 ·
  rw [if_pos h0]
  have b0 : (a0_0.toList == a1_0.toList) = true := by rw [toList_data, toList_data]; exact beq_iff_eq.mpr h0
  have b0' : (a0_0.toList != a1_0.toList) = false := by rw [toList_data, toList_data]; exact bne_eq_false_iff_eq.mpr h0
  by_cases h1 : a0_1.data.toList = a1_1.data.toList
  ·
   have b1 : (a0_1.toList == a1_1.toList) = true := by rw [toList_data, toList_data]; exact beq_iff_eq.mpr h1
   have hr : Lib.compareBytes a0_1.data.toList a1_1.data.toList = 0 := by rw [h1]; exact cmp_refl _
   rw [hr]
   clear h0 h1 hr hcon
   go_enter Tryz.func43, Tryz.ntmps43
   go_wp2
   repeat (go_quiet (fail); try go_wp2)
   go_ret
   exact ⟨rfl, by repeat (first | exact Below.refl _ _ | apply pw_below_drewN | apply below_alloc)⟩
  ·
   have b1 : (a0_1.toList == a1_1.toList) = false := by rw [toList_data, toList_data]; exact beq_eq_false_iff_ne.mpr h1
   have hc := hcon a0_1 a1_1
   generalize Lib.compareBytes a0_1.data.toList a1_1.data.toList = r at hc ⊢
   clear h0 h1 hcon
   go_enter Tryz.func43, Tryz.ntmps43
   go_wp2_with (go_at_call 34; refine (hc _).mono ?_; rintro e w' ⟨rfl, rfl⟩)
   repeat (go_quiet (fail); try go_wp2_with (go_at_call 34; refine (hc _).mono ?_; rintro e w' ⟨rfl, rfl⟩))
   go_ret
   exact ⟨rfl, by repeat (first | exact Below.refl _ _ | apply pw_below_drewN | apply below_alloc)⟩
 ·
  rw [if_neg h0]
  have b0 : (a0_0.toList == a1_0.toList) = false := by rw [toList_data, toList_data]; exact beq_eq_false_iff_ne.mpr h0
  have b0' : (a0_0.toList != a1_0.toList) = true := by rw [toList_data, toList_data]; exact bne_iff_ne.mpr h0
  have hc := hcon a0_0 a1_0
  generalize Lib.compareBytes a0_0.data.toList a1_0.data.toList = r at hc ⊢
  clear h0 hcon
  go_enter Tryz.func43, Tryz.ntmps43
  go_wp2_with (go_at_call 34; refine (hc _).mono ?_; rintro e w' ⟨rfl, rfl⟩)
  repeat (go_quiet (fail); try go_wp2_with (go_at_call 34; refine (hc _).mono ?_; rintro e w' ⟨rfl, rfl⟩))
  go_ret
  exact ⟨rfl, by repeat (first | exact Below.refl _ _ | apply pw_below_drewN | apply below_alloc)⟩
end Go.Proofs.YtnfanpjfhdlddaaGreatDoor.Pr
end
section
namespace Go.Proofs.YtnfanpjfhdlddaaGreatDoor.Pr
open Go.RowKit Go.Proofs.YtnfanpjfhdlddaaGreatDoorW.PrintWords Go.Proofs.YtnfanpjfhdlddaaGreatDoorW.PrintLast Go.Proofs.YtnfanpjfhdlddaaGreatDoorW.PrintMore
attribute [local go_sem] max2_int min2_int max_two min_two max_three min_three max_four min_four strGtr strLeq strGeq
set_option linter.unusedVariables false
set_option linter.unusedSimpArgs false
def api_Attr_42.l0 : Nat → List (S45) → List (S45) → List (S45) → Int → Int → Option (Int)
  | 0, _, _, _, _, _ => none
  | k + 1, x0, x1, x11, x12, x13 => if x13 < x12 then (if 0 ≤ x13 then (if x13 < (x11.length : Int) then (if x13 ≥ (x1.length : Int) then (some 1) else (if x13 < (x1.length : Int) then ((attr_Cmp_1.f ((rd_T45 x11 x13).f0) ((rd_T45 x11 x13).f1) ((rd_T45 x1 x13).f0) ((rd_T45 x1 x13).f1)).bind fun t174 => (if t174 = 0 then (api_Attr_42.l0 k x0 x1 x11 x12 (wrap64 (x13 + 1))) else (some t174))) else (none))) else (none)) else (none)) else (if (x0.length : Int) < (x1.length : Int) then (some (-1)) else (some 0))
def api_Attr_42.f (k : Nat) (l0 : List (S45)) (l1 : List (S45))  : Option (Int) := api_Attr_42.l0 k l0 l1 l0 (l0.length : Int) 0
set_option maxHeartbeats 8000000 in
set_option maxRecDepth 100000 in
theorem api_Attr_42.calls (k : Nat) (A0 : Option Addr) (c0 : Nat) (l0 : List (S45)) (A1 : Option Addr) (c1 : Nat) (l1 : List (S45))  (r : Int) (w : World) (hr0 : Kd.C k45 w A0 l0.length l0) (hc0 : l0.length ≤ c0) (hr1 : Kd.C k45 w A1 l1.length l1) (hc1 : l1.length ≤ c1) (h : api_Attr_42.f k l0 l1 = some r) :
  Calls Tryz.prog 42 #[.slice A0 l0.length c0, .slice A1 l1.length c1, .func (.func 43) #[] #[]] w fun e w' => e = .returned (.int .i64 r) ∧ Below w.heap.size w w' := by
 have hu45 := Tryz.underlying45
 have HR0 := Aside0.mk hr0
 have HC0 := Aside0.mk hc0
 clear hr0 hc0
 have HR1 := Aside0.mk hr1
 have HC1 := Aside0.mk hc1
 clear hr1 hc1
 have HB := Aside0.mk (Below.refl w.heap.size w)
 have H : (api_Attr_42.l0 k l0 l1 l0 (l0.length : Int) 0) = some r := h
 clear h
 have H' := Aside0.mk H
 clear H
 go_enter Tryz.func42, Tryz.ntmps42
 go_wp2
 go_loopg [13] k (fun kq v13 w' => ∃ (x13_1 : Int), v13 = .int .i64 x13_1 ∧ Aside0 (api_Attr_42.l0 kq l0 l1 l0 (l0.length : Int) x13_1 = some r) ∧ Aside0 (kq ≤ k) ∧ Aside0 (Below w.heap.size w w'))
 case atStart => exact ⟨(0), (by first | rfl | (simp; done) | (simp [*]; done)), H', ⟨Nat.le_refl _⟩, ⟨by repeat (first | (with_reducible first | exact HB.out | apply below_alloc | apply pw_below_drewN | apply below_drew1) | exact HB.out)⟩⟩
 case round =>
  clear H'
  try clear c1
  try clear p2
  obtain ⟨x13_1, rfl, HA, HK1, HB⟩ := hrel
  cases gk with
  | zero => exact absurd HA.out (by simp [api_Attr_42.l0])
  | succ k1 =>
   have H := HA.out
   clear HA
   simp only [api_Attr_42.l0] at H
   by_cases c4 : x13_1 < (l0.length : Int)
   ·
    rw [if_pos c4] at H
    have c4b0 : decide (x13_1 < (l0.length : Int)) = true := decide_eq_true c4
    clear c4
    by_cases c5 : 0 ≤ x13_1
    ·
     rw [if_pos c5] at H
     have c5b0 : decide (0 ≤ x13_1) = true := decide_eq_true c5
     clear c5
     by_cases c6 : x13_1 < (l0.length : Int)
     ·
      rw [if_pos c6] at H
      have c6b0 : decide (x13_1 < (l0.length : Int)) = true := decide_eq_true c6
      clear c6
      by_cases c7 : x13_1 ≥ (l1.length : Int)
      ·
       rw [if_pos c7] at H
       have c7b0 : decide ((l1.length : Int) ≤ x13_1) = true := decide_eq_true c7
       clear c7
       obtain rfl := Option.some.inj H
       have p170 : 0 ≤ (x13_1 : Int) := of_decide_eq_true (by first | (with_reducible assumption) | assumption)
       have q170 : x13_1 < (l0.length : Int) := of_decide_eq_true (by first | (with_reducible assumption) | assumption)
       obtain ⟨ad170, e170, hx170_0, hx170_1⟩ := at_T45 HR0.out x13_1 p170 q170
       cases e170
       replace hx170_0 := (HB.out.cell (World.block_lt_of_cell? w _ hx170_0)).trans hx170_0
       replace hx170_1 := (HB.out.cell (World.block_lt_of_cell? w _ hx170_1)).trans hx170_1
       replace p170 := eq_true p170
       replace q170 := eq_true q170
       go_wp2_with (first | ((with_reducible refine gate_dst (N := 8) rfl ?_); refine box_event ?hg (N := 8) ?hd (cs := #[.string (⟨#[]⟩ : ByteArray), .string (⟨#[]⟩ : ByteArray)]) (t := 45) ?hr ?_; (case hd => rfl); (case hg => rfl); (case hr => first | (go_simp; done) | (go_simp; rfl)); intro gb171 hg w8 hbox hb; have n0_ := Aside0.mk (below_step (by repeat (first | (with_reducible first | exact HB.out | apply below_alloc | apply pw_below_drewN | apply below_drew1) | exact HB.out)) hb); have n1_ := Aside0.mk (hbox); have n2_ := Aside0.mk ((by rw [hg]; exact (below_size (by repeat (first | (with_reducible first | exact HB.out | apply below_alloc | apply pw_below_drewN | apply below_drew1) | exact HB.out))) : w.heap.size ≤ gb171)); have n3_ := Aside0.mk ((by rw [hg]; exact (below_size (by repeat (first | (with_reducible first | exact HB.out | apply below_alloc | apply pw_below_drewN | apply below_drew1) | exact HB.out))) : w.heap.size ≤ gb171)); clear HB; have HB := n0_; have BK171 := n1_; have GW171 := n2_; have GE171 := n3_; clear n0_ n1_ n2_ n3_; clear hb hbox hg; have hcz9_0 : w8.cell? ⟨gb171, 0, none⟩ = some (.string (⟨#[]⟩ : ByteArray)) := (blk_cell BK171.out 0).trans rfl; have hcz9_1 : w8.cell? ⟨gb171, 1, none⟩ = some (.string (⟨#[]⟩ : ByteArray)) := (blk_cell BK171.out 1).trans rfl; have hfz9_0 := blk_frozen BK171.out 0; have hfz9_1 := blk_frozen BK171.out 1))
       go_ret
       exact ⟨by first | rfl | (simp [errW_none, errW_some] <;> rfl) | (simp [*, errW_none, errW_some] <;> rfl), by repeat (first | (with_reducible first | exact HB.out | apply below_alloc | apply pw_below_drewN | apply below_drew1 | refine below_set ?_ GE171.out) | exact HB.out)⟩
      ·
       rw [if_neg c7] at H
       have c7b0 : decide ((l1.length : Int) ≤ x13_1) = false := decide_eq_false c7
       clear c7
       by_cases c10 : x13_1 < (l1.length : Int)
       ·
        rw [if_pos c10] at H
        have c10b0 : decide (x13_1 < (l1.length : Int)) = true := decide_eq_true c10
        clear c10
        replace H := Option.bind_eq_some_iff.mp H
        obtain ⟨t174, A110, H⟩ := H
        replace H : (if t174 = 0 then (api_Attr_42.l0 k1 l0 l1 l0 (l0.length : Int) (wrap64 (x13_1 + 1))) else (some t174)) = some r := H
        have A11 := Aside0.mk A110
        clear A110
        by_cases c12 : t174 = 0
        ·
         rw [if_pos c12] at H
         have c12b0 : (t174 == 0) = true := beq_iff_eq.mpr c12
         have c12b1 : (t174 != 0) = false := bne_eq_false_iff_eq.mpr c12
         clear c12
         have H' := Aside0.mk H
         clear H
         have p170 : 0 ≤ (x13_1 : Int) := of_decide_eq_true (by first | (with_reducible assumption) | assumption)
         have q170 : x13_1 < (l0.length : Int) := of_decide_eq_true (by first | (with_reducible assumption) | assumption)
         obtain ⟨ad170, e170, hx170_0, hx170_1⟩ := at_T45 HR0.out x13_1 p170 q170
         cases e170
         replace hx170_0 := (HB.out.cell (World.block_lt_of_cell? w _ hx170_0)).trans hx170_0
         replace hx170_1 := (HB.out.cell (World.block_lt_of_cell? w _ hx170_1)).trans hx170_1
         replace p170 := eq_true p170
         replace q170 := eq_true q170
         go_wp2_with (first | ((with_reducible refine gate_dst (N := 8) rfl ?_); refine box_event ?hg (N := 8) ?hd (cs := #[.string (⟨#[]⟩ : ByteArray), .string (⟨#[]⟩ : ByteArray)]) (t := 45) ?hr ?_; (case hd => rfl); (case hg => rfl); (case hr => first | (go_simp; done) | (go_simp; rfl)); intro gb171 hg w13 hbox hb; have n0_ := Aside0.mk (below_step (by repeat (first | (with_reducible first | exact HB.out | apply below_alloc | apply pw_below_drewN | apply below_drew1) | exact HB.out)) hb); have n1_ := Aside0.mk (hbox); have n2_ := Aside0.mk ((by rw [hg]; exact (below_size (by repeat (first | (with_reducible first | exact HB.out | apply below_alloc | apply pw_below_drewN | apply below_drew1) | exact HB.out))) : w.heap.size ≤ gb171)); have n3_ := Aside0.mk ((by rw [hg]; exact (below_size (by repeat (first | (with_reducible first | exact HB.out | apply below_alloc | apply pw_below_drewN | apply below_drew1) | exact HB.out))) : w.heap.size ≤ gb171)); clear HB; have HB := n0_; have BK171 := n1_; have GW171 := n2_; have GE171 := n3_; clear n0_ n1_ n2_ n3_; clear hb hbox hg; have hcz14_0 : w13.cell? ⟨gb171, 0, none⟩ = some (.string (⟨#[]⟩ : ByteArray)) := (blk_cell BK171.out 0).trans rfl; have hcz14_1 : w13.cell? ⟨gb171, 1, none⟩ = some (.string (⟨#[]⟩ : ByteArray)) := (blk_cell BK171.out 1).trans rfl; have hfz14_0 := blk_frozen BK171.out 0; have hfz14_1 := blk_frozen BK171.out 1; have p172 : 0 ≤ (x13_1 : Int) := of_decide_eq_true (by first | (with_reducible assumption) | assumption); have q172 : x13_1 < (l1.length : Int) := of_decide_eq_true (by first | (with_reducible assumption) | assumption); obtain ⟨ad172, e172, hx172_0, hx172_1⟩ := at_T45 HR1.out x13_1 p172 q172; cases e172; have hn172_0 : ad172.block ≠ gb171 := Nat.ne_of_lt (Nat.lt_of_lt_of_le (by have := World.block_lt_of_cell? _ _ hx172_0; first | rwa [add_block] at this | exact this) GW171.out); have hn172_1 : ad172.block ≠ gb171 := Nat.ne_of_lt (Nat.lt_of_lt_of_le (by have := World.block_lt_of_cell? _ _ hx172_0; first | rwa [add_block] at this | exact this) GW171.out); replace hx172_0 := (HB.out.cell (World.block_lt_of_cell? w _ hx172_0)).trans hx172_0; replace hx172_1 := (HB.out.cell (World.block_lt_of_cell? w _ hx172_1)).trans hx172_1; replace hx172_0 := (cell_far (p := ⟨gb171, 0, none⟩) (by first | (rw [add_block]; exact hn172_0) | (show (Addr.add _ _).block ≠ _; rw [add_block]; exact hn172_0) | exact hn172_0) (.string ((rd_T45 l0 x13_1).f0))).trans hx172_0; replace hx172_1 := (cell_far (p := ⟨gb171, 0, none⟩) (by first | (rw [add_block]; exact hn172_0) | (show (Addr.add _ _).block ≠ _; rw [add_block]; exact hn172_0) | exact hn172_0) (.string ((rd_T45 l0 x13_1).f0))).trans hx172_1; replace hx172_0 := (cell_far (p := ⟨gb171, 1, none⟩) (by first | (rw [add_block]; exact hn172_1) | (show (Addr.add _ _).block ≠ _; rw [add_block]; exact hn172_1) | exact hn172_1) (.string ((rd_T45 l0 x13_1).f1))).trans hx172_0; replace hx172_1 := (cell_far (p := ⟨gb171, 1, none⟩) (by first | (rw [add_block]; exact hn172_1) | (show (Addr.add _ _).block ≠ _; rw [add_block]; exact hn172_1) | exact hn172_1) (.string ((rd_T45 l0 x13_1).f1))).trans hx172_1; clear hn172_0; clear hn172_1; replace p172 := eq_true p172; replace q172 := eq_true q172) | ((with_reducible refine gate_dst (N := 9) rfl ?_); refine box_event ?hg (N := 9) ?hd (cs := #[.string (⟨#[]⟩ : ByteArray), .string (⟨#[]⟩ : ByteArray)]) (t := 45) ?hr ?_; (case hd => rfl); (case hg => rfl); (case hr => first | (go_simp; done) | (go_simp; rfl)); intro gb173 hg w15 hbox hb; have n0_ := Aside0.mk (blk_below (g := gb171) (o := .cells #[.string ((rd_T45 l0 x13_1).f0), .string ((rd_T45 l0 x13_1).f1)] 45 (0, 0)) (by (with_reducible repeat (first | refine blk_drewN ?_ _ | refine blk_drew ?_ | refine blk_alloc ?_ _)); refine blk_put (cs := #[.string ((rd_T45 l0 x13_1).f0), .string (⟨#[]⟩ : ByteArray)]) ?_ 1 _ rfl; (with_reducible repeat (first | refine blk_drewN ?_ _ | refine blk_drew ?_ | refine blk_alloc ?_ _)); refine blk_put (cs := #[.string (⟨#[]⟩ : ByteArray), .string (⟨#[]⟩ : ByteArray)]) ?_ 0 _ rfl; (with_reducible repeat (first | refine blk_drewN ?_ _ | refine blk_drew ?_ | refine blk_alloc ?_ _)); exact BK171.out) hb); have n1_ := Aside0.mk (below_step (by repeat (first | (with_reducible first | exact HB.out | apply below_alloc | apply pw_below_drewN | apply below_drew1 | refine below_set ?_ GE171.out) | exact HB.out)) hb); have n2_ := Aside0.mk (hbox); have n3_ := Aside0.mk ((by rw [hg]; exact (below_size (by repeat (first | (with_reducible first | exact HB.out | apply below_alloc | apply pw_below_drewN | apply below_drew1 | refine below_set ?_ GE171.out) | exact HB.out))) : w.heap.size ≤ gb173)); have n4_ := Aside0.mk ((by rw [hg]; exact (below_size (by repeat (first | (with_reducible first | exact HB.out | apply below_alloc | apply pw_below_drewN | apply below_drew1 | refine below_set ?_ GE171.out) | exact HB.out))) : w.heap.size ≤ gb173)); have n5_ := Aside0.mk ((by rw [hg]; exact Nat.ne_of_lt (blk_lt (g := gb171) (o := .cells #[.string ((rd_T45 l0 x13_1).f0), .string ((rd_T45 l0 x13_1).f1)] 45 (0, 0)) (by (with_reducible repeat (first | refine blk_drewN ?_ _ | refine blk_drew ?_ | refine blk_alloc ?_ _)); refine blk_put (cs := #[.string ((rd_T45 l0 x13_1).f0), .string (⟨#[]⟩ : ByteArray)]) ?_ 1 _ rfl; (with_reducible repeat (first | refine blk_drewN ?_ _ | refine blk_drew ?_ | refine blk_alloc ?_ _)); refine blk_put (cs := #[.string (⟨#[]⟩ : ByteArray), .string (⟨#[]⟩ : ByteArray)]) ?_ 0 _ rfl; (with_reducible repeat (first | refine blk_drewN ?_ _ | refine blk_drew ?_ | refine blk_alloc ?_ _)); exact BK171.out)) : gb171 ≠ gb173)); have n6_ := Aside0.mk ((by rw [hg]; exact Nat.ne_of_gt (blk_lt (g := gb171) (o := .cells #[.string ((rd_T45 l0 x13_1).f0), .string ((rd_T45 l0 x13_1).f1)] 45 (0, 0)) (by (with_reducible repeat (first | refine blk_drewN ?_ _ | refine blk_drew ?_ | refine blk_alloc ?_ _)); refine blk_put (cs := #[.string ((rd_T45 l0 x13_1).f0), .string (⟨#[]⟩ : ByteArray)]) ?_ 1 _ rfl; (with_reducible repeat (first | refine blk_drewN ?_ _ | refine blk_drew ?_ | refine blk_alloc ?_ _)); refine blk_put (cs := #[.string (⟨#[]⟩ : ByteArray), .string (⟨#[]⟩ : ByteArray)]) ?_ 0 _ rfl; (with_reducible repeat (first | refine blk_drewN ?_ _ | refine blk_drew ?_ | refine blk_alloc ?_ _)); exact BK171.out)) : gb173 ≠ gb171)); clear BK171; clear HB; have BK171 := n0_; have HB := n1_; have BK173 := n2_; have GW173 := n3_; have GE173 := n4_; have NB171_173 := n5_; have NB173_171 := n6_; clear n0_ n1_ n2_ n3_ n4_ n5_ n6_; clear hb hbox hg; have hnb16 := NB173_171.out; have hnc16 := NB171_173.out; have hcz17_0 : w15.cell? ⟨gb173, 0, none⟩ = some (.string (⟨#[]⟩ : ByteArray)) := (blk_cell BK173.out 0).trans rfl; have hcz17_1 : w15.cell? ⟨gb173, 1, none⟩ = some (.string (⟨#[]⟩ : ByteArray)) := (blk_cell BK173.out 1).trans rfl; have hfz17_0 := blk_frozen BK173.out 0; have hfz17_1 := blk_frozen BK173.out 1; have hcz18_0 : w15.cell? ⟨gb171, 0, none⟩ = some (.string ((rd_T45 l0 x13_1).f0)) := (blk_cell BK171.out 0).trans rfl; have hcz18_1 : w15.cell? ⟨gb171, 1, none⟩ = some (.string ((rd_T45 l0 x13_1).f1)) := (blk_cell BK171.out 1).trans rfl; have hfz18_0 := blk_frozen BK171.out 0; have hfz18_1 := blk_frozen BK171.out 1) | (go_at_call 43; (with_reducible refine (attr_Cmp_1.calls ((rd_T45 l0 x13_1).f0) ((rd_T45 l0 x13_1).f1) ((rd_T45 l1 x13_1).f0) ((rd_T45 l1 x13_1).f1) t174 _ A11.out).mono ?_); rintro e w19 ⟨rfl, hb⟩; have n0_ := Aside0.mk (blk_below (g := gb171) (o := .cells #[.string ((rd_T45 l0 x13_1).f0), .string ((rd_T45 l0 x13_1).f1)] 45 (0, 0)) (by (with_reducible repeat (first | refine blk_drewN ?_ _ | refine blk_drew ?_ | refine blk_alloc ?_ _)); refine blk_far ?_ NB171_173.out _; (with_reducible repeat (first | refine blk_drewN ?_ _ | refine blk_drew ?_ | refine blk_alloc ?_ _)); refine blk_far ?_ NB171_173.out _; (with_reducible repeat (first | refine blk_drewN ?_ _ | refine blk_drew ?_ | refine blk_alloc ?_ _)); exact BK171.out) hb); have n1_ := Aside0.mk (blk_below (g := gb173) (o := .cells #[.string ((rd_T45 l1 x13_1).f0), .string ((rd_T45 l1 x13_1).f1)] 45 (0, 0)) (by (with_reducible repeat (first | refine blk_drewN ?_ _ | refine blk_drew ?_ | refine blk_alloc ?_ _)); refine blk_put (cs := #[.string ((rd_T45 l1 x13_1).f0), .string (⟨#[]⟩ : ByteArray)]) ?_ 1 _ rfl; (with_reducible repeat (first | refine blk_drewN ?_ _ | refine blk_drew ?_ | refine blk_alloc ?_ _)); refine blk_put (cs := #[.string (⟨#[]⟩ : ByteArray), .string (⟨#[]⟩ : ByteArray)]) ?_ 0 _ rfl; (with_reducible repeat (first | refine blk_drewN ?_ _ | refine blk_drew ?_ | refine blk_alloc ?_ _)); exact BK173.out) hb); have n2_ := Aside0.mk (below_step (by repeat (first | (with_reducible first | exact HB.out | apply below_alloc | apply pw_below_drewN | apply below_drew1 | refine below_set ?_ GE171.out | refine below_set ?_ GE173.out) | exact HB.out)) hb); clear BK171; clear BK173; clear HB; have BK171 := n0_; have BK173 := n1_; have HB := n2_; clear n0_ n1_ n2_; (try clear hb); (try clear hb2); (try clear hk); (try clear hi)))
         go_roundg k1
         case measure => have := HK1.out; omega
         case rel => exact ⟨(wrap64 (x13_1 + 1)), (by first | rfl | (simp; done) | (simp [*]; done)), H', ⟨by have := HK1.out; omega⟩, ⟨by repeat (first | (with_reducible first | exact HB.out | apply below_alloc | apply pw_below_drewN | apply below_drew1 | refine below_set ?_ GE171.out | refine below_set ?_ GE173.out) | exact HB.out)⟩⟩
        ·
         rw [if_neg c12] at H
         have c12b0 : (t174 == 0) = false := beq_eq_false_iff_ne.mpr c12
         have c12b1 : (t174 != 0) = true := bne_iff_ne.mpr c12
         obtain rfl := Option.some.inj H
         have p170 : 0 ≤ (x13_1 : Int) := of_decide_eq_true (by first | (with_reducible assumption) | assumption)
         have q170 : x13_1 < (l0.length : Int) := of_decide_eq_true (by first | (with_reducible assumption) | assumption)
         obtain ⟨ad170, e170, hx170_0, hx170_1⟩ := at_T45 HR0.out x13_1 p170 q170
         cases e170
         replace hx170_0 := (HB.out.cell (World.block_lt_of_cell? w _ hx170_0)).trans hx170_0
         replace hx170_1 := (HB.out.cell (World.block_lt_of_cell? w _ hx170_1)).trans hx170_1
         replace p170 := eq_true p170
         replace q170 := eq_true q170
         go_wp2_with (first | ((with_reducible refine gate_dst (N := 8) rfl ?_); refine box_event ?hg (N := 8) ?hd (cs := #[.string (⟨#[]⟩ : ByteArray), .string (⟨#[]⟩ : ByteArray)]) (t := 45) ?hr ?_; (case hd => rfl); (case hg => rfl); (case hr => first | (go_simp; done) | (go_simp; rfl)); intro gb171 hg w20 hbox hb; have n0_ := Aside0.mk (below_step (by repeat (first | (with_reducible first | exact HB.out | apply below_alloc | apply pw_below_drewN | apply below_drew1) | exact HB.out)) hb); have n1_ := Aside0.mk (hbox); have n2_ := Aside0.mk ((by rw [hg]; exact (below_size (by repeat (first | (with_reducible first | exact HB.out | apply below_alloc | apply pw_below_drewN | apply below_drew1) | exact HB.out))) : w.heap.size ≤ gb171)); have n3_ := Aside0.mk ((by rw [hg]; exact (below_size (by repeat (first | (with_reducible first | exact HB.out | apply below_alloc | apply pw_below_drewN | apply below_drew1) | exact HB.out))) : w.heap.size ≤ gb171)); clear HB; have HB := n0_; have BK171 := n1_; have GW171 := n2_; have GE171 := n3_; clear n0_ n1_ n2_ n3_; clear hb hbox hg; have hcz21_0 : w20.cell? ⟨gb171, 0, none⟩ = some (.string (⟨#[]⟩ : ByteArray)) := (blk_cell BK171.out 0).trans rfl; have hcz21_1 : w20.cell? ⟨gb171, 1, none⟩ = some (.string (⟨#[]⟩ : ByteArray)) := (blk_cell BK171.out 1).trans rfl; have hfz21_0 := blk_frozen BK171.out 0; have hfz21_1 := blk_frozen BK171.out 1; have p172 : 0 ≤ (x13_1 : Int) := of_decide_eq_true (by first | (with_reducible assumption) | assumption); have q172 : x13_1 < (l1.length : Int) := of_decide_eq_true (by first | (with_reducible assumption) | assumption); obtain ⟨ad172, e172, hx172_0, hx172_1⟩ := at_T45 HR1.out x13_1 p172 q172; cases e172; have hn172_0 : ad172.block ≠ gb171 := Nat.ne_of_lt (Nat.lt_of_lt_of_le (by have := World.block_lt_of_cell? _ _ hx172_0; first | rwa [add_block] at this | exact this) GW171.out); have hn172_1 : ad172.block ≠ gb171 := Nat.ne_of_lt (Nat.lt_of_lt_of_le (by have := World.block_lt_of_cell? _ _ hx172_0; first | rwa [add_block] at this | exact this) GW171.out); replace hx172_0 := (HB.out.cell (World.block_lt_of_cell? w _ hx172_0)).trans hx172_0; replace hx172_1 := (HB.out.cell (World.block_lt_of_cell? w _ hx172_1)).trans hx172_1; replace hx172_0 := (cell_far (p := ⟨gb171, 0, none⟩) (by first | (rw [add_block]; exact hn172_0) | (show (Addr.add _ _).block ≠ _; rw [add_block]; exact hn172_0) | exact hn172_0) (.string ((rd_T45 l0 x13_1).f0))).trans hx172_0; replace hx172_1 := (cell_far (p := ⟨gb171, 0, none⟩) (by first | (rw [add_block]; exact hn172_0) | (show (Addr.add _ _).block ≠ _; rw [add_block]; exact hn172_0) | exact hn172_0) (.string ((rd_T45 l0 x13_1).f0))).trans hx172_1; replace hx172_0 := (cell_far (p := ⟨gb171, 1, none⟩) (by first | (rw [add_block]; exact hn172_1) | (show (Addr.add _ _).block ≠ _; rw [add_block]; exact hn172_1) | exact hn172_1) (.string ((rd_T45 l0 x13_1).f1))).trans hx172_0; replace hx172_1 := (cell_far (p := ⟨gb171, 1, none⟩) (by first | (rw [add_block]; exact hn172_1) | (show (Addr.add _ _).block ≠ _; rw [add_block]; exact hn172_1) | exact hn172_1) (.string ((rd_T45 l0 x13_1).f1))).trans hx172_1; clear hn172_0; clear hn172_1; replace p172 := eq_true p172; replace q172 := eq_true q172) | ((with_reducible refine gate_dst (N := 9) rfl ?_); refine box_event ?hg (N := 9) ?hd (cs := #[.string (⟨#[]⟩ : ByteArray), .string (⟨#[]⟩ : ByteArray)]) (t := 45) ?hr ?_; (case hd => rfl); (case hg => rfl); (case hr => first | (go_simp; done) | (go_simp; rfl)); intro gb173 hg w22 hbox hb; have n0_ := Aside0.mk (blk_below (g := gb171) (o := .cells #[.string ((rd_T45 l0 x13_1).f0), .string ((rd_T45 l0 x13_1).f1)] 45 (0, 0)) (by (with_reducible repeat (first | refine blk_drewN ?_ _ | refine blk_drew ?_ | refine blk_alloc ?_ _)); refine blk_put (cs := #[.string ((rd_T45 l0 x13_1).f0), .string (⟨#[]⟩ : ByteArray)]) ?_ 1 _ rfl; (with_reducible repeat (first | refine blk_drewN ?_ _ | refine blk_drew ?_ | refine blk_alloc ?_ _)); refine blk_put (cs := #[.string (⟨#[]⟩ : ByteArray), .string (⟨#[]⟩ : ByteArray)]) ?_ 0 _ rfl; (with_reducible repeat (first | refine blk_drewN ?_ _ | refine blk_drew ?_ | refine blk_alloc ?_ _)); exact BK171.out) hb); have n1_ := Aside0.mk (below_step (by repeat (first | (with_reducible first | exact HB.out | apply below_alloc | apply pw_below_drewN | apply below_drew1 | refine below_set ?_ GE171.out) | exact HB.out)) hb); have n2_ := Aside0.mk (hbox); have n3_ := Aside0.mk ((by rw [hg]; exact (below_size (by repeat (first | (with_reducible first | exact HB.out | apply below_alloc | apply pw_below_drewN | apply below_drew1 | refine below_set ?_ GE171.out) | exact HB.out))) : w.heap.size ≤ gb173)); have n4_ := Aside0.mk ((by rw [hg]; exact (below_size (by repeat (first | (with_reducible first | exact HB.out | apply below_alloc | apply pw_below_drewN | apply below_drew1 | refine below_set ?_ GE171.out) | exact HB.out))) : w.heap.size ≤ gb173)); have n5_ := Aside0.mk ((by rw [hg]; exact Nat.ne_of_lt (blk_lt (g := gb171) (o := .cells #[.string ((rd_T45 l0 x13_1).f0), .string ((rd_T45 l0 x13_1).f1)] 45 (0, 0)) (by (with_reducible repeat (first | refine blk_drewN ?_ _ | refine blk_drew ?_ | refine blk_alloc ?_ _)); refine blk_put (cs := #[.string ((rd_T45 l0 x13_1).f0), .string (⟨#[]⟩ : ByteArray)]) ?_ 1 _ rfl; (with_reducible repeat (first | refine blk_drewN ?_ _ | refine blk_drew ?_ | refine blk_alloc ?_ _)); refine blk_put (cs := #[.string (⟨#[]⟩ : ByteArray), .string (⟨#[]⟩ : ByteArray)]) ?_ 0 _ rfl; (with_reducible repeat (first | refine blk_drewN ?_ _ | refine blk_drew ?_ | refine blk_alloc ?_ _)); exact BK171.out)) : gb171 ≠ gb173)); have n6_ := Aside0.mk ((by rw [hg]; exact Nat.ne_of_gt (blk_lt (g := gb171) (o := .cells #[.string ((rd_T45 l0 x13_1).f0), .string ((rd_T45 l0 x13_1).f1)] 45 (0, 0)) (by (with_reducible repeat (first | refine blk_drewN ?_ _ | refine blk_drew ?_ | refine blk_alloc ?_ _)); refine blk_put (cs := #[.string ((rd_T45 l0 x13_1).f0), .string (⟨#[]⟩ : ByteArray)]) ?_ 1 _ rfl; (with_reducible repeat (first | refine blk_drewN ?_ _ | refine blk_drew ?_ | refine blk_alloc ?_ _)); refine blk_put (cs := #[.string (⟨#[]⟩ : ByteArray), .string (⟨#[]⟩ : ByteArray)]) ?_ 0 _ rfl; (with_reducible repeat (first | refine blk_drewN ?_ _ | refine blk_drew ?_ | refine blk_alloc ?_ _)); exact BK171.out)) : gb173 ≠ gb171)); clear BK171; clear HB; have BK171 := n0_; have HB := n1_; have BK173 := n2_; have GW173 := n3_; have GE173 := n4_; have NB171_173 := n5_; have NB173_171 := n6_; clear n0_ n1_ n2_ n3_ n4_ n5_ n6_; clear hb hbox hg; have hnb23 := NB173_171.out; have hnc23 := NB171_173.out; have hcz24_0 : w22.cell? ⟨gb173, 0, none⟩ = some (.string (⟨#[]⟩ : ByteArray)) := (blk_cell BK173.out 0).trans rfl; have hcz24_1 : w22.cell? ⟨gb173, 1, none⟩ = some (.string (⟨#[]⟩ : ByteArray)) := (blk_cell BK173.out 1).trans rfl; have hfz24_0 := blk_frozen BK173.out 0; have hfz24_1 := blk_frozen BK173.out 1; have hcz25_0 : w22.cell? ⟨gb171, 0, none⟩ = some (.string ((rd_T45 l0 x13_1).f0)) := (blk_cell BK171.out 0).trans rfl; have hcz25_1 : w22.cell? ⟨gb171, 1, none⟩ = some (.string ((rd_T45 l0 x13_1).f1)) := (blk_cell BK171.out 1).trans rfl; have hfz25_0 := blk_frozen BK171.out 0; have hfz25_1 := blk_frozen BK171.out 1) | (go_at_call 43; (with_reducible refine (attr_Cmp_1.calls ((rd_T45 l0 x13_1).f0) ((rd_T45 l0 x13_1).f1) ((rd_T45 l1 x13_1).f0) ((rd_T45 l1 x13_1).f1) t174 _ A11.out).mono ?_); rintro e w26 ⟨rfl, hb⟩; have n0_ := Aside0.mk (blk_below (g := gb171) (o := .cells #[.string ((rd_T45 l0 x13_1).f0), .string ((rd_T45 l0 x13_1).f1)] 45 (0, 0)) (by (with_reducible repeat (first | refine blk_drewN ?_ _ | refine blk_drew ?_ | refine blk_alloc ?_ _)); refine blk_far ?_ NB171_173.out _; (with_reducible repeat (first | refine blk_drewN ?_ _ | refine blk_drew ?_ | refine blk_alloc ?_ _)); refine blk_far ?_ NB171_173.out _; (with_reducible repeat (first | refine blk_drewN ?_ _ | refine blk_drew ?_ | refine blk_alloc ?_ _)); exact BK171.out) hb); have n1_ := Aside0.mk (blk_below (g := gb173) (o := .cells #[.string ((rd_T45 l1 x13_1).f0), .string ((rd_T45 l1 x13_1).f1)] 45 (0, 0)) (by (with_reducible repeat (first | refine blk_drewN ?_ _ | refine blk_drew ?_ | refine blk_alloc ?_ _)); refine blk_put (cs := #[.string ((rd_T45 l1 x13_1).f0), .string (⟨#[]⟩ : ByteArray)]) ?_ 1 _ rfl; (with_reducible repeat (first | refine blk_drewN ?_ _ | refine blk_drew ?_ | refine blk_alloc ?_ _)); refine blk_put (cs := #[.string (⟨#[]⟩ : ByteArray), .string (⟨#[]⟩ : ByteArray)]) ?_ 0 _ rfl; (with_reducible repeat (first | refine blk_drewN ?_ _ | refine blk_drew ?_ | refine blk_alloc ?_ _)); exact BK173.out) hb); have n2_ := Aside0.mk (below_step (by repeat (first | (with_reducible first | exact HB.out | apply below_alloc | apply pw_below_drewN | apply below_drew1 | refine below_set ?_ GE171.out | refine below_set ?_ GE173.out) | exact HB.out)) hb); clear BK171; clear BK173; clear HB; have BK171 := n0_; have BK173 := n1_; have HB := n2_; clear n0_ n1_ n2_; (try clear hb); (try clear hb2); (try clear hk); (try clear hi)))
         go_ret
         exact ⟨by first | rfl | (simp [errW_none, errW_some] <;> rfl) | (simp [*, errW_none, errW_some] <;> rfl), by repeat (first | (with_reducible first | exact HB.out | apply below_alloc | apply pw_below_drewN | apply below_drew1 | refine below_set ?_ GE171.out | refine below_set ?_ GE173.out) | exact HB.out)⟩
       ·
        rw [if_neg c10] at H
        exact absurd H (by simp)
     ·
      rw [if_neg c6] at H
      exact absurd H (by simp)
    ·
     rw [if_neg c5] at H
     exact absurd H (by simp)
   ·
    rw [if_neg c4] at H
    have c4b0 : decide (x13_1 < (l0.length : Int)) = false := decide_eq_false c4
    clear c4
    by_cases c27 : (l0.length : Int) < (l1.length : Int)
    ·
     rw [if_pos c27] at H
     have c27b0 : decide ((l0.length : Int) < (l1.length : Int)) = true := decide_eq_true c27
     have c27b1 : decide (l0.length < l1.length) = true := decide_eq_true (Int.ofNat_lt.mp c27)
     clear c27
     obtain rfl := Option.some.inj H
     go_wp2
     go_ret
     exact ⟨by first | rfl | (simp [errW_none, errW_some] <;> rfl) | (simp [*, errW_none, errW_some] <;> rfl), by repeat (first | (with_reducible first | exact HB.out | apply below_alloc | apply pw_below_drewN | apply below_drew1) | exact HB.out)⟩
    ·
     rw [if_neg c27] at H
     have c27b0 : decide ((l0.length : Int) < (l1.length : Int)) = false := decide_eq_false c27
     have c27b1 : decide (l0.length < l1.length) = false := decide_eq_false (fun h => c27 (Int.ofNat_lt.mpr h))
     clear c27
     obtain rfl := Option.some.inj H
     go_wp2
     go_ret
     exact ⟨by first | rfl | (simp [errW_none, errW_some] <;> rfl) | (simp [*, errW_none, errW_some] <;> rfl), by repeat (first | (with_reducible first | exact HB.out | apply below_alloc | apply pw_below_drewN | apply below_drew1) | exact HB.out)⟩
def attr_Cmp.f (k : Nat) (l0 : List (S45)) (l1 : List (S45)) : Option (Int) := (api_Attr_42.f k l0 l1).bind fun t175 => (some t175)
set_option maxHeartbeats 8000000 in
set_option maxRecDepth 100000 in
theorem attr_Cmp.calls (k : Nat) (A0 : Option Addr) (c0 : Nat) (l0 : List (S45)) (A1 : Option Addr) (c1 : Nat) (l1 : List (S45)) (r : Int) (w : World) (hr0 : Kd.C k45 w A0 l0.length l0) (hc0 : l0.length ≤ c0) (hr1 : Kd.C k45 w A1 l1.length l1) (hc1 : l1.length ≤ c1) (h : attr_Cmp.f k l0 l1 = some r) :
  Calls Tryz.prog 25 #[.slice A0 l0.length c0, .slice A1 l1.length c1] w fun e w' => e = .returned (.int .i64 r) ∧ Below w.heap.size w w' := by
 have HR0 := Aside0.mk hr0
 have HC0 := Aside0.mk hc0
 clear hr0 hc0
 have HR1 := Aside0.mk hr1
 have HC1 := Aside0.mk hc1
 clear hr1 hc1
 have HB := Aside0.mk (Below.refl w.heap.size w)
 have H : ((api_Attr_42.f k l0 l1).bind fun t175 => (some t175)) = some r := h
 clear h
 replace H := Option.bind_eq_some_iff.mp H
 obtain ⟨t175, A30, H⟩ := H
 replace H : (some t175) = some r := H
 have A3 := Aside0.mk A30
 clear A30
 obtain rfl := Option.some.inj H
 go_enter Tryz.func25, Tryz.ntmps25
 go_wp2_with (first | ((with_reducible refine gate_callee (f := 42) rfl ?_); refine goesL_ (some 7) rfl rfl Tryz.func42 (by kernel_rfl) rfl #[.slice A0 l0.length c0, .slice A1 l1.length c1, .func (.func 43) #[] #[]] rfl (by (try simp only [List.map_toArray, List.map_cons, List.map_nil]); first | done | rfl | (simp only [List.length_drop, List.length_take]; rfl)) ?_; (with_reducible refine (api_Attr_42.calls k _ _ l0 _ _ l1  t175 _ ?side1 ?side2 ?side3 ?side4 A3.out).mono ?_); (case side1 => repeat (first | exact HR0.out | (with_reducible refine Kd.C_alloc ?_ _) | (with_reducible refine Kd.C_drewN ?_ _) | (with_reducible refine Kd.C_drew ?_))); (case side2 => exact HC0.out); (case side3 => repeat (first | exact HR1.out | (with_reducible refine Kd.C_alloc ?_ _) | (with_reducible refine Kd.C_drewN ?_ _) | (with_reducible refine Kd.C_drew ?_))); (case side4 => exact HC1.out); rintro e w4 ⟨rfl, hb⟩; refine ⟨_, rfl, ?_⟩; have n0_ := Aside0.mk (below_step (by repeat (first | (with_reducible first | exact HB.out | apply below_alloc | apply pw_below_drewN | apply below_drew1) | exact HB.out)) hb); clear HB; have HB := n0_; clear n0_; (try clear hb); (try clear hb2); (try clear hk); (try clear hi)))
 go_ret
 exact ⟨by first | rfl | (simp [errW_none, errW_some] <;> rfl) | (simp [*, errW_none, errW_some] <;> rfl), by repeat (first | (with_reducible first | exact HB.out | apply below_alloc | apply pw_below_drewN | apply below_drew1) | exact HB.out)⟩
def belfrylaw04_spoil.l0 : Nat → List (S45) → Int → Option ((List (S45)))
  | 0, _, _ => none
  | k + 1, x0, x2 => if x2 < (x0.length : Int) then (if 0 ≤ x2 then (belfrylaw04_spoil.l0 k (x0.set (x2 : Int).toNat (⟨(⟨#[115, 112, 111, 105, 108, 116]⟩ : ByteArray), (⟨#[120]⟩ : ByteArray)⟩ : S45)) (wrap64 (x2 + 1))) else (none)) else (some x0)
def belfrylaw04_spoil.f (k : Nat) (l0 : List (S45)) : Option ((List (S45))) := belfrylaw04_spoil.l0 k l0 0
set_option maxHeartbeats 8000000 in
set_option maxRecDepth 100000 in
theorem belfrylaw04_spoil.calls (k : Nat) (P0_ : Nat → Prop) (u9000_ : Value) (l0 : List (S45)) (r : List (S45)) (w0 w : World) (hB : Below w0.heap.size w0 w) (ho0 : Kd.R k45 45 w w0.heap.size P0_ u9000_ l0) (h : belfrylaw04_spoil.f k l0 = some r) :
  Calls Tryz.prog 13 #[u9000_] w fun e w' => e = .returned (.tuple #[]) ∧ Kd.R k45 45 w' w0.heap.size (fun k_ => (P0_ k_ ∨ w.heap.size ≤ k_)) u9000_ r ∧ Below w0.heap.size w0 w' ∧ Kept w w' (fun k_ => P0_ k_) := by
 have hu45 := Tryz.underlying45
 have HO0 := Aside0.mk (show Kd.R k45 45 w w0.heap.size (fun k_ => (P0_ k_ ∨ w.heap.size ≤ k_)) u9000_ l0 from Kd.R_mono ho0 (fun k_ hk => (.inl hk)))
 have HK := Aside0.mk (Kept.refl w (fun k_ => P0_ k_))
 have HW0 := Aside0.mk hB.size
 have HB := Aside0.mk hB
 clear hB
 have H : (belfrylaw04_spoil.l0 k l0 0) = some r := h
 clear h
 have H' := Aside0.mk H
 clear H
 go_enter Tryz.func13, Tryz.ntmps13
 go_wp2
 go_loopg [2] k (fun kq v2 w' => ∃ (x0_1 : List (S45)) (x2_1 : Int), v2 = .int .i64 x2_1 ∧ Aside0 (belfrylaw04_spoil.l0 kq x0_1 x2_1 = some r) ∧ Aside0 (kq ≤ k) ∧ Aside0 (Kd.R k45 45 w' w0.heap.size (fun k_ => (P0_ k_ ∨ w.heap.size ≤ k_)) u9000_ x0_1) ∧ Aside0 (Kept w w' (fun k_ => P0_ k_)) ∧ Aside0 (Below w0.heap.size w0 w'))
 case atStart => exact ⟨(l0), (0), (by first | rfl | (simp; done) | (simp [*]; done)), H', ⟨Nat.le_refl _⟩, ⟨by (with_reducible repeat (first | apply Kd.R_alloc | apply Kd.R_drewN | apply Kd.R_drew)); exact HO0.out⟩, ⟨by repeat (first | (with_reducible first | exact HK.out | apply Kept.alloc | apply Kept.drewN | apply Kept.drew) | exact HK.out)⟩, ⟨by repeat (first | (with_reducible first | exact HB.out | apply below_alloc | apply pw_below_drewN | apply below_drew1) | exact HB.out)⟩⟩
 case round =>
  clear H'
  try clear c1
  obtain ⟨x0_1, x2_1, rfl, HA, HK1, HO_0, HK, HB⟩ := hrel
  cases gk with
  | zero => exact absurd HA.out (by simp [belfrylaw04_spoil.l0])
  | succ k1 =>
   have H := HA.out
   clear HA
   simp only [belfrylaw04_spoil.l0] at H
   by_cases c2 : x2_1 < (x0_1.length : Int)
   ·
    rw [if_pos c2] at H
    have c2b0 : decide (x2_1 < (x0_1.length : Int)) = true := decide_eq_true c2
    clear c2
    by_cases c3 : 0 ≤ x2_1
    ·
     rw [if_pos c3] at H
     have c3b0 : decide (0 ≤ x2_1) = true := decide_eq_true c3
     clear c3
     obtain ⟨y186, hy186⟩ : ∃ y_ : List (S45), y_ = (x0_1.set (x2_1 : Int).toNat (⟨(⟨#[115, 112, 111, 105, 108, 116]⟩ : ByteArray), (⟨#[120]⟩ : ByteArray)⟩ : S45)) := ⟨_, rfl⟩
     replace H : (belfrylaw04_spoil.l0 k1 y186 (wrap64 (x2_1 + 1))) = some r := by first | (rw [hy186]; with_reducible exact H) | (have H2_ := (Option.bind_some _ _).symm.trans H; rw [hy186]; with_reducible exact H2_) | (have H2_ := (Option.bind_some _ _).symm.trans H; with_reducible exact H2_) | with_reducible exact H | (rw [hy186]; exact H) | exact H
     have Ny186 := Aside0.mk hy186
     clear hy186
     have H' := Aside0.mk H
     clear H
     obtain ⟨Ao5, co5, eo5⟩ := Kd.R_slice HO_0.out
     subst eo5
     have p4 : 0 ≤ (x2_1 : Int) := of_decide_eq_true (by first | (with_reducible assumption) | assumption)
     have q4 : (x2_1 : Int) < ((x0_1.length : Int) : Int) := of_decide_eq_true (by first | (with_reducible assumption) | assumption)
     obtain ⟨go4, co4, eo4, gb4, gl4, cl4, HG4⟩ := Kd.R_form HO_0.out (by omega)
     (first | cases eo4 | (injection eo4 with ea_ en_ ec_; (first | subst ea_ | (injection ea_ with ea_; subst ea_)); subst ec_; clear en_))
     have GB4 := Aside0.mk gb4
     have GG4 := Aside0.mk HG4
     clear gb4 gl4 HG4
     have HMgo4 := Aside0.mk (show (P0_ go4 ∨ w.heap.size ≤ go4) from (HO_0.out.1 _ rfl))
     obtain ⟨ce4, hcl4, hM4, hcc4, hfr4⟩ := Kd.R_elem HO_0.out z45 (x2_1 : Int) p4 q4
     obtain rfl := k45_openM hM4
     have hx4_0 : wr.cell? ⟨go4, (x2_1 : Int).toNat * 2, none⟩ = some (.string ((rd_T45 x0_1 x2_1).f0)) := hcc4 0 _ rfl
     have hx4_1 : wr.cell? ⟨go4, (x2_1 : Int).toNat * 2 + 1, none⟩ = some (.string ((rd_T45 x0_1 x2_1).f1)) := hcc4 1 _ rfl
     have hf4_0 : wr.frozen? ⟨go4, (x2_1 : Int).toNat * 2, none⟩ = false := hfr4 0
     have hf4_1 : wr.frozen? ⟨go4, (x2_1 : Int).toNat * 2 + 1, none⟩ = false := hfr4 1
     clear hcl4 hcc4 hfr4 hM4
     replace p4 := eq_true p4
     replace q4 := eq_true q4
     have HX6 := Aside0.mk (show Kd.R k45 45 wr w0.heap.size (fun k_ => (P0_ k_ ∨ w.heap.size ≤ k_)) (.slice (some ⟨go4, 0, none⟩) x0_1.length co5) x0_1 from (by (with_reducible repeat (first | apply Kd.R_alloc | apply Kd.R_drewN | apply Kd.R_drew)); exact HO_0.out))
     obtain ⟨ce6, hcl6, hM6, hcc6, hfr6⟩ := Kd.R_elem HX6.out z45 (x2_1 : Int) (of_decide_eq_true (by first | (with_reducible assumption) | assumption)) (by have h_ : (x2_1 : Int) < ((x0_1.length : Int) : Int) := of_decide_eq_true (by first | (with_reducible assumption) | assumption); first | exact h_ | (have e_ := (Kd.R_reads' HO_0.out).1; omega) | simpa using h_)
     obtain rfl := k45_openM hM6
     have HP6 := Kd.R_seg HX6.out (x2_1 : Int) (of_decide_eq_true (by first | (with_reducible assumption) | assumption)) (by have h_ : (x2_1 : Int) < ((x0_1.length : Int) : Int) := of_decide_eq_true (by first | (with_reducible assumption) | assumption); first | exact h_ | (have e_ := (Kd.R_reads' HO_0.out).1; omega) | simpa using h_) (seg := [.string (⟨#[115, 112, 111, 105, 108, 116]⟩ : ByteArray), .string (⟨#[120]⟩ : ByteArray)]) (j := 0) hcl6 hcc6 (show 2 ≤ 2 from by decide) (x' := (⟨(⟨#[115, 112, 111, 105, 108, 116]⟩ : ByteArray), (⟨#[120]⟩ : ByteArray)⟩ : S45)) (k45_mkM _ _ _ (⟨(⟨#[115, 112, 111, 105, 108, 116]⟩ : ByteArray), (⟨#[120]⟩ : ByteArray)⟩ : S45) ) (fun _ hk => hk)
     have hx6_0 := hcc6 0 _ rfl
     (try simp only [show (k45).sz = 2 from rfl, Nat.mul_one, Nat.add_zero] at hx6_0)
     have hf6_0 := hfr6 0
     (try simp only [show (k45).sz = 2 from rfl, Nat.mul_one, Nat.add_zero] at hf6_0)
     have hx6_1 := hcc6 1 _ rfl
     (try simp only [show (k45).sz = 2 from rfl, Nat.mul_one, Nat.add_zero] at hx6_1)
     have hf6_1 := hfr6 1
     (try simp only [show (k45).sz = 2 from rfl, Nat.mul_one, Nat.add_zero] at hf6_1)
     clear hcl6 hcc6 hfr6 hM6
     go_wp2_with (first | ((with_reducible refine gate_store (t := 45) (p := 12) rfl ?_); refine store_event (t := 45) (p := 12) (v := ?vo_w7) (w1 := ((wr.setCell ⟨go4, (x2_1 : Int).toNat * 2, none⟩ (.string (⟨#[115, 112, 111, 105, 108, 116]⟩ : ByteArray))).setCell ⟨go4, (x2_1 : Int).toNat * 2 + 1, none⟩ (.string (⟨#[120]⟩ : ByteArray)))) ?hg ?ho ?hn ?hr ?_; (case ho => rfl); (case hg => rfl); (case hn => rfl); (case hr => first | (go_simp; done) | (go_simp; rfl)); intro w7 hw; have hg : wr.grownBy w7 (some go4) := (by rw [hw]; exact HP6.2); have hp_ : Kd.R k45 45 w7 w0.heap.size (fun k_ => (P0_ k_ ∨ w.heap.size ≤ k_)) (.slice (some ⟨go4, 0, none⟩) x0_1.length co5) y186 := (by rw [hw, Ny186.out]; exact HP6.1); clear HP6; have n0_ := Aside0.mk (hp_); have n1_ := Aside0.mk ((by rw [hw]; exact below_set (below_set (HB.out) GB4.out) GB4.out : Below w0.heap.size w0 w7)); have n2_ := Aside0.mk (Kept.of_grown (S := (fun k_ => P0_ k_)) hg (by repeat (first | (with_reducible first | exact HK.out | apply Kept.alloc | apply Kept.drewN | apply Kept.drew) | exact HK.out)) (fun k_ e_ => (HO_0.out.1 k_ e_))); clear HO_0; clear HB; clear HK; have HO_0 := n0_; have HB := n1_; have HK := n2_; clear n0_ n1_ n2_; clear hg hw hp_))
     go_roundg k1
     case measure => have := HK1.out; omega
     case rel => exact ⟨(y186), (wrap64 (x2_1 + 1)), (by first | rfl | (simp; done) | (simp [*]; done)), H', ⟨by have := HK1.out; omega⟩, ⟨by (with_reducible repeat (first | apply Kd.R_alloc | apply Kd.R_drewN | apply Kd.R_drew)); exact HO_0.out⟩, ⟨by repeat (first | (with_reducible first | exact HK.out | apply Kept.alloc | apply Kept.drewN | apply Kept.drew) | exact HK.out)⟩, ⟨by repeat (first | (with_reducible first | exact HB.out | apply below_alloc | apply pw_below_drewN | apply below_drew1) | exact HB.out)⟩⟩
    ·
     rw [if_neg c3] at H
     exact absurd H (by simp)
   ·
    rw [if_neg c2] at H
    have c2b0 : decide (x2_1 < (x0_1.length : Int)) = false := decide_eq_false c2
    clear c2
    obtain rfl := Option.some.inj H
    obtain ⟨Ao8, co8, eo8⟩ := Kd.R_slice HO_0.out
    subst eo8
    go_wp2
    first | go_end0 | ((try simp only [Exit.inBlock, Exit.then]); refine bodyPost_ret (results_none rfl _ _ _) rfl ?_)
    exact ⟨by first | rfl | (simp [errW_none, errW_some] <;> rfl) | (simp [*, errW_none, errW_some] <;> rfl), by (with_reducible repeat (first | apply Kd.R_alloc | apply Kd.R_drewN | apply Kd.R_drew)); exact HO_0.out, by repeat (first | (with_reducible first | exact HB.out | apply below_alloc | apply pw_below_drewN | apply below_drew1) | exact HB.out), by repeat (first | (with_reducible first | exact HK.out | apply Kept.alloc | apply Kept.drewN | apply Kept.drew) | exact HK.out)⟩
def IsS103 (w0 W : World) (g : Nat) (f0 : ByteArray) (f1 : Int) (f2 : Bool) : Prop := W.heap[g]? = some (.cells #[.string f0, .int .i64 f1, .bool f2] 103 (0, 0)) ∧ w0.heap.size ≤ g
theorem IsS103.grown {w0 W : World} {g : Nat} {f0 : ByteArray} {f1 : Int} {f2 : Bool} {W1 : World} {row : Option Nat} (h : IsS103 w0 W g f0 f1 f2) (hw : W.grownBy W1 row) (hne : some g ≠ row) : IsS103 w0 W1 g f0 f1 f2 := by
 obtain ⟨hb, hg⟩ := h
 exact ⟨blk_grown hb hw hne, hg⟩
theorem IsS103.fresh {w0 W : World} {g : Nat} {f0 : ByteArray} {f1 : Int} {f2 : Bool} (h : IsS103 w0 W g f0 f1 f2) : ∀ k, W.heap.size ≤ k → k ≠ g := by
 obtain ⟨hb, hg⟩ := h
 exact Kd.freshB hb
theorem IsS103.kept {w0 W : World} {g : Nat} {f0 : ByteArray} {f1 : Int} {f2 : Bool} {W1 : World} {S : Nat → Prop} (h : IsS103 w0 W g f0 f1 f2) (hk : Kept W W1 S) (hne : ¬ S g) : IsS103 w0 W1 g f0 f1 f2 := by
 obtain ⟨hb, hg⟩ := h
 exact ⟨blk_kept hb hk hne, hg⟩
theorem IsS103.below {w0 W : World} {g : Nat} {f0 : ByteArray} {f1 : Int} {f2 : Bool} {W1 : World} (h : IsS103 w0 W g f0 f1 f2) (hw : Below W.heap.size W W1) : IsS103 w0 W1 g f0 f1 f2 := h.grown (grown_of_below hw none) (by simp)
theorem IsS103.alloc {w0 W : World} {g : Nat} {f0 : ByteArray} {f1 : Int} {f2 : Bool} (h : IsS103 w0 W g f0 f1 f2) (o : Obj) : IsS103 w0 (W.alloc o) g f0 f1 f2 := h.below (below_alloc (Below.refl _ _) o)
theorem IsS103.drewN {w0 W : World} {g : Nat} {f0 : ByteArray} {f1 : Int} {f2 : Bool} (h : IsS103 w0 W g f0 f1 f2) (m : Nat) : IsS103 w0 (W.drewN m) g f0 f1 f2 := h
theorem IsS103.drew {w0 W : World} {g : Nat} {f0 : ByteArray} {f1 : Int} {f2 : Bool} (h : IsS103 w0 W g f0 f1 f2) : IsS103 w0 W.drew g f0 f1 f2 := h
theorem IsS103.at_ {w0 W : World} {g : Nat} {f0 : ByteArray} {f1 : Int} {f2 : Bool} {w' : World} {m : Nat} (hq : W.drewN m = w') (h : IsS103 w0 W g f0 f1 f2) : IsS103 w0 w' g f0 f1 f2 := by subst hq; exact IsS103.drewN h m
theorem IsS103.apart {w0 W : World} {g : Nat} {f0 : ByteArray} {f1 : Int} {f2 : Bool} {α : Type} {d : Kd α} {e : Nat} {base : Nat} {ok : Nat → Prop} {v : Value} {xs : List α} (h : IsS103 w0 W g f0 f1 f2) (ho : d.R e W base ok v xs) (ht : ∀ q, q ∈ e :: d.E → q ≠ 103) : d.R e W base (fun k => ok k ∧ k ≠ g) v xs := by
 obtain ⟨hb, hg⟩ := h
 exact Kd.R_types ho hb ht
theorem IsS103.own_ne {w0 W : World} {g : Nat} {f0 : ByteArray} {f1 : Int} {f2 : Bool} {α : Type} {d : Kd α} {e : Nat} {base : Nat} {ok : Nat → Prop} {v : Value} {xs : List α} (h : IsS103 w0 W g f0 f1 f2) (ho : d.R e W base ok v xs) (ht : e ≠ 103) : some g ≠ v.ownBlock := by
 obtain ⟨hb, hg⟩ := h
 exact Kd.R_ne ho hb ht
theorem IsS103.lt {w0 W : World} {g : Nat} {f0 : ByteArray} {f1 : Int} {f2 : Bool} (h : IsS103 w0 W g f0 f1 f2) : g < W.heap.size := by
 obtain ⟨hb, hg⟩ := h
 exact blk_lt hb
theorem IsS103.ge {w0 W : World} {g : Nat} {f0 : ByteArray} {f1 : Int} {f2 : Bool} (h : IsS103 w0 W g f0 f1 f2) : w0.heap.size ≤ g := by
 obtain ⟨hb, hg⟩ := h
 exact hg
theorem IsS103.far {w0 W : World} {g : Nat} {f0 : ByteArray} {f1 : Int} {f2 : Bool} {p : Addr} (h : IsS103 w0 W g f0 f1 f2) (hne : g ≠ p.block) (u : Value) : IsS103 w0 (W.setCell p u) g f0 f1 f2 := by
 obtain ⟨hb, hg⟩ := h
 exact ⟨blk_far hb hne u, hg⟩
theorem cellS103_0 {W : World} {g : Nat} {f0 : ByteArray} {f1 : Int} {f2 : Bool} (h : W.heap[g]? = some (.cells #[.string f0, .int .i64 f1, .bool f2] 103 (0, 0))) : W.cell? ⟨g, 0, none⟩ = some (.string f0) := (blk_cell h 0).trans rfl
theorem IsS103.set_0 {w0 W : World} {g : Nat} {f0 : ByteArray} {f1 : Int} {f2 : Bool} (h : IsS103 w0 W g f0 f1 f2) (x : ByteArray) : IsS103 w0 (W.setCell ⟨g, 0, none⟩ (.string x)) g x f1 f2 := by
 obtain ⟨hb, hg⟩ := h
 exact ⟨by simpa using blk_set hb 0 (.string x), hg⟩
theorem cellS103_1 {W : World} {g : Nat} {f0 : ByteArray} {f1 : Int} {f2 : Bool} (h : W.heap[g]? = some (.cells #[.string f0, .int .i64 f1, .bool f2] 103 (0, 0))) : W.cell? ⟨g, 1, none⟩ = some (.int .i64 f1) := (blk_cell h 1).trans rfl
theorem IsS103.set_1 {w0 W : World} {g : Nat} {f0 : ByteArray} {f1 : Int} {f2 : Bool} (h : IsS103 w0 W g f0 f1 f2) (x : Int) : IsS103 w0 (W.setCell ⟨g, 1, none⟩ (.int .i64 x)) g f0 x f2 := by
 obtain ⟨hb, hg⟩ := h
 exact ⟨by simpa using blk_set hb 1 (.int .i64 x), hg⟩
theorem cellS103_2 {W : World} {g : Nat} {f0 : ByteArray} {f1 : Int} {f2 : Bool} (h : W.heap[g]? = some (.cells #[.string f0, .int .i64 f1, .bool f2] 103 (0, 0))) : W.cell? ⟨g, 2, none⟩ = some (.bool f2) := (blk_cell h 2).trans rfl
theorem IsS103.set_2 {w0 W : World} {g : Nat} {f0 : ByteArray} {f1 : Int} {f2 : Bool} (h : IsS103 w0 W g f0 f1 f2) (x : Bool) : IsS103 w0 (W.setCell ⟨g, 2, none⟩ (.bool x)) g f0 f1 x := by
 obtain ⟨hb, hg⟩ := h
 exact ⟨by simpa using blk_set hb 2 (.bool x), hg⟩
theorem IsS103.new (w0 W : World) (f0 : ByteArray) (f1 : Int) (f2 : Bool) (hB : Below w0.heap.size w0 W) : IsS103 w0 (W.alloc (.cells #[.string f0, .int .i64 f1, .bool f2] 103)) W.heap.size f0 f1 f2 := ⟨by simpa using heap_alloc_new W _, hB.size⟩
end Go.Proofs.YtnfanpjfhdlddaaGreatDoor.Pr
end
section
set_option linter.unusedVariables false
set_option linter.unusedSimpArgs false
namespace Go.Proofs.YtnfanpjfhdlddaaGreatDoor.Pr
open Go.RowKit Go.Proofs.YtnfanpjfhdlddaaGreatDoorW.PrintWords Go.Proofs.YtnfanpjfhdlddaaGreatDoorW.PrintLast Go.Proofs.YtnfanpjfhdlddaaGreatDoorW.PrintMore
def Ev {α : Type} (f : Nat → Option α) (v : α) : Prop := ∃ K, ∀ k, K ≤ k → f k = some v
theorem Ev.bind {α β : Type} {f : Nat → Option α} {g : Nat → α → Option β} {v : α} {r : β} (h : Ev f v) (h' : Ev (fun k => g k v) r) : Ev (fun k => (f k).bind (g k)) r := by
 obtain ⟨K, hK⟩ := h
 obtain ⟨L, hL⟩ := h'
 exact ⟨K + L, fun k hk => by show (f k).bind (g k) = _; rw [hK k (by omega), Option.bind_some]; exact hL k (by omega)⟩
theorem Ev.const {α : Type} {v : α} {f : Option α} (h : f = some v) : Ev (fun _ => f) v := ⟨0, fun _ _ => h⟩
theorem Ev.succ {α : Type} {f g : Nat → Option α} {v : α} (h : Ev g v) (e : ∀ k, f (k + 1) = g k) : Ev f v := by
 obtain ⟨K, hK⟩ := h
 refine ⟨K + 1, fun k hk => ?_⟩
 obtain ⟨k, rfl⟩ : ∃ j, k = j + 1 := ⟨k - 1, by omega⟩
 rw [e]; exact hK k (by omega)
def valB (s : ByteArray) : Bool := decide (1 ≤ s.size) && decide (s.size ≤ 256) && Lib.validD s.data.toList
theorem value_eq (s : ByteArray) : attr_Value.f s = some (valB s) := by
 unfold attr_Value.f attr_plain.f utf8_ValidString.f valB
 by_cases h0 : s.size = 0
 ·
  rw [if_pos (toList_nil.2 h0)]; simp [h0]
 ·
  rw [if_neg (fun h => h0 (toList_nil.1 h))]
  have h1 : decide (1 ≤ s.size) = true := decide_eq_true (by omega)
  rw [h1]
  by_cases h : (s.size : Int) ≤ 256
  ·
   have h2 : decide (s.size ≤ 256) = true := decide_eq_true (by omega)
   rw [if_pos h, if_pos (by omega), h2]; simp
  ·
   have h2 : decide (s.size ≤ 256) = false := decide_eq_false (by omega)
   rw [if_neg h, h2]; simp
theorem ref_value_eq (s : ByteArray) : Ev (fun k => belfryref04_Value.f k s) (valB s) := by
 unfold belfryref04_Value.f belfryref04_text.f belfryref02_Utf8.f valB
 by_cases h0 : s.size = 0
 ·
  refine ⟨0, fun k _ => ?_⟩
  dsimp only
  rw [if_pos (toList_nil.2 h0)]; simp [h0]
 ·
  have h1 : decide (1 ≤ s.size) = true := decide_eq_true (by omega)
  by_cases h : (s.size : Int) ≤ 256
  ·
   have h2 : decide (s.size ≤ 256) = true := decide_eq_true (by omega)
   obtain ⟨K, hK⟩ := utf8_l0 s (by omega) (s.size + 1) 0 (by omega) (by omega)
   refine ⟨K, fun k hk => ?_⟩
   have := hK k hk
   simp only [Int.natCast_zero, List.drop_zero] at this
   dsimp only
   rw [if_neg (fun h => h0 (toList_nil.1 h)), if_pos h, h1, h2]
   rw [this]; simp
  ·
   have h2 : decide (s.size ≤ 256) = false := decide_eq_false (by omega)
   refine ⟨0, fun k _ => ?_⟩
   dsimp only
   rw [if_neg (fun h => h0 (toList_nil.1 h)), if_neg h, h2]; simp
def faultOf : List S45 → Int
  | [] => 0
  | x :: l => if keyB x.f0 then (if valB x.f1 then faultOf l else 41) else 40
theorem rd_at (l : List S45) (i : Nat) (h : i < l.length) : rd_T45 l (i : Int) = l[i] := by simp [rd_T45, h]
theorem drop_cons (l : List S45) (i : Nat) (h : i < l.length) : l.drop i = l[i] :: l.drop (i + 1) := List.drop_eq_getElem_cons h
abbrev keyL (x : S45) : List UInt8 := x.f0.data.toList
def dupAdj : List S45 → Bool
  | [] => false
  | [_] => false
  | x :: y :: t => keyL x == keyL y || dupAdj (y :: t)
theorem make_l1 (s : List S45) (hs : s.length ≤ 16) : ∀ (n i : Nat), 1 ≤ i → i + n = s.length → ∀ k, n < k → attr_Make.l1 k s (s.length : Int) (i : Int) = some (if dupAdj (s.drop (i - 1)) then ([], 6) else (s, 0))
 | _, _, _, _, 0, hk => absurd hk (by omega)
 | 0, i, h1, hn, k + 1, hk => by
  rw [attr_Make.l1, if_neg (by omega), drop_cons s (i - 1) (by omega), List.drop_of_length_le (show s.length ≤ i - 1 + 1 by omega)]
  rfl
 | n + 1, i, h1, hn, k + 1, hk => by
  have hi : i < s.length := by omega
  have ih := make_l1 s hs n (i + 1) (by omega) (by omega) k (by omega)
  have e1 : wrap64 ((i : Int) - 1) = ((i - 1 : Nat) : Int) := by rw [wrap_small (by omega) (by omega)]; omega
  have e2 : wrap64 ((i : Int) + 1) = ((i + 1 : Nat) : Int) := by rw [wrap_small (by omega) (by omega)]; omega
  rw [attr_Make.l1, if_pos (by omega), if_pos (by omega), if_pos (by omega), if_pos (by omega), e1, if_pos (by omega), if_pos (by omega), rd_at s i hi, rd_at s (i - 1) (by omega), e2, ih]
  rw [drop_cons s (i - 1) (by omega), show i - 1 + 1 = i by omega, drop_cons s i hi, dupAdj, show i + 1 - 1 = i by omega, drop_cons s i hi]
  simp only [Lib.toList_data]
  by_cases h : keyL s[i] = keyL s[i - 1]
  ·
   rw [if_pos h, show (keyL s[i - 1] == keyL s[i]) = true by simp [h]]; rfl
  ·
   rw [if_neg h, show (keyL s[i - 1] == keyL s[i]) = false from beq_eq_false_iff_ne.2 (fun e => h e.symm)]; rfl
theorem ref_l2 (s : List S45) (hs : s.length ≤ 16) : ∀ (n i : Nat), 1 ≤ i → i + n = s.length ∨ (n = 0 ∧ s.length ≤ i) → ∀ k, n < k → belfryref04_Make.l2 k s (i : Int) = some (if i ≤ s.length ∧ dupAdj (s.drop (i - 1)) = true then ([], 6) else (s, 0))
 | _, _, _, _, 0, hk => absurd hk (by omega)
 | 0, i, h1, hn, k + 1, hk => by
  rw [belfryref04_Make.l2, if_neg (by omega)]
  by_cases h : i ≤ s.length
  ·
   rw [drop_cons s (i - 1) (by omega), List.drop_of_length_le (show s.length ≤ i - 1 + 1 by omega)]
   simp [dupAdj]
  ·
   rw [if_neg (fun hh => h hh.1)]
 | n + 1, i, h1, hn, k + 1, hk => by
  have hi : i < s.length := by omega
  have ih := ref_l2 s hs n (i + 1) (by omega) (by omega) k (by omega)
  have e1 : wrap64 ((i : Int) - 1) = ((i - 1 : Nat) : Int) := by rw [wrap_small (by omega) (by omega)]; omega
  have e2 : wrap64 ((i : Int) + 1) = ((i + 1 : Nat) : Int) := by rw [wrap_small (by omega) (by omega)]; omega
  rw [belfryref04_Make.l2, if_pos (by omega), if_pos (by omega), e1, if_pos (by omega), if_pos (by omega), rd_at s i hi, rd_at s (i - 1) (by omega), e2, ih]
  rw [drop_cons s (i - 1) (by omega), show i - 1 + 1 = i by omega, drop_cons s i hi, dupAdj, show i + 1 - 1 = i by omega, drop_cons s i hi]
  simp only [Lib.toList_data]
  have a1 : i + 1 ≤ s.length := by omega
  have a2 : i ≤ s.length := by omega
  by_cases h : keyL s[i] = keyL s[i - 1]
  ·
   rw [if_pos h, show (keyL s[i - 1] == keyL s[i]) = true by simp [h]]; simp [a2]
  ·
   rw [if_neg h, show (keyL s[i - 1] == keyL s[i]) = false from beq_eq_false_iff_ne.2 (fun e => h e.symm)]; simp [a1, a2]
theorem make_l0 (l : List S45) (hl : l.length ≤ 16) : ∀ (n i : Nat), i + n = l.length → ∀ k, n + l.length + 70 < k → attr_Make.l0 k l l (l.length : Int) (i : Int) = some (if faultOf (l.drop i) ≠ 0 then ([], faultOf (l.drop i)) else if dupAdj (sorted45 l) then ([], 6) else (sorted45 l, 0))
 | _, _, _, 0, hk => absurd hk (by omega)
 | 0, i, hn, k + 1, hk => by
  have hd : l.drop i = [] := List.drop_of_length_le (by omega)
  have hlen := (sorted45_perm l).2.1
  rw [attr_Make.l0, if_neg (by omega), hd, slices_Clone_Attr.f, if_pos (by omega), Option.bind_some, slices_SortFunc_Attr.f, if_pos (by omega), Option.bind_some, if_neg (by simp [faultOf])]
  obtain ⟨k, rfl⟩ : ∃ j, k = j + 1 := ⟨k - 1, by omega⟩
  rw [← hlen]
  by_cases h0 : (sorted45 l).length = 0
  ·
   rw [attr_Make.l1, if_neg (by omega)]
   rw [List.eq_nil_of_length_eq_zero h0]; rfl
  ·
   have := make_l1 (sorted45 l) (by omega) ((sorted45 l).length - 1) 1 (by omega) (by omega) k (by omega)
   rw [attr_Make.l1, if_pos (by omega), if_neg (by omega), show wrap64 (0 + 1) = ((1 : Nat) : Int) by unfold wrap64; rfl, this]
   rfl
 | n + 1, i, hn, k + 1, hk => by
  have hi : i < l.length := by omega
  have ih := make_l0 l hl n (i + 1) (by omega) k (by omega)
  have e2 : wrap64 ((i : Int) + 1) = ((i + 1 : Nat) : Int) := by rw [wrap_small (by omega) (by omega)]; omega
  rw [attr_Make.l0, if_pos (by omega), if_pos (by omega), if_pos (by omega), rd_at l i hi, key_eq _ k (by omega), Option.bind_some, drop_cons l i hi, faultOf]
  cases hk1 : keyB l[i].f0 with
  | false => simp
  | true =>
   rw [if_pos rfl, value_eq, Option.bind_some]
   cases hv : valB l[i].f1 with
   | false => simp
   | true =>
    rw [if_pos rfl, e2, ih]; simp
end Go.Proofs.YtnfanpjfhdlddaaGreatDoor.Pr
end
section
set_option linter.unusedVariables false
set_option linter.unusedSimpArgs false
namespace Go.Proofs.YtnfanpjfhdlddaaGreatDoor.Pr
open Go.RowKit Go.Proofs.YtnfanpjfhdlddaaGreatDoorW.PrintWords Go.Proofs.YtnfanpjfhdlddaaGreatDoorW.PrintLast Go.Proofs.YtnfanpjfhdlddaaGreatDoorW.PrintMore
def ltK (a b : S45) : Bool := Op.bytesLess (keyL a) (keyL b)
theorem ltK_irrefl (a : S45) : ltK a a = false := bytesLess_irrefl _
theorem ltK_trans {a b c : S45} (h : ltK a b = true) (h' : ltK b c = true) : ltK a c = true := less_trans _ _ _ h h'
theorem ltK_ntrans {a b c : S45} (h : ltK a b = false) (h' : ltK b c = false) : ltK a c = false := less_ntrans _ _ _ h h'
theorem ltK_asym {a b : S45} (h : ltK a b = true) : ltK b a = false := by
 cases h' : ltK b a with
 | false => rfl
 | true => have := ltK_trans h h'; rw [ltK_irrefl] at this; cases this
theorem ltK_total {a b : S45} (h : ltK b a = false) (hne : keyL a ≠ keyL b) : ltK a b = true := by
 have := bytesLess_total (keyL b) (keyL a)
 unfold ltK at *
 rw [← this, h, beq_eq_false_iff_ne.2 (fun e => hne e.symm)]
 rfl
def pos (x : S45) (m : List S45) : Nat → Nat
  | 0 => 0
  | j + 1 => if ltK x (rd_T45 m (j : Int)) = true then pos x m j else j + 1
theorem pos_le (x : S45) (m : List S45) : ∀ j, pos x m j ≤ j
 | 0 => Nat.le_refl _
 | j + 1 => by
  rw [pos]; split
  ·
   exact Nat.le_trans (pos_le x m j) (Nat.le_succ _)
  ·
   exact Nat.le_refl _
theorem pos_before (x : S45) (m : List S45) : ∀ j, pos x m j = 0 ∨ ltK x (rd_T45 m ((pos x m j - 1 : Nat) : Int)) = false
 | 0 => .inl rfl
 | j + 1 => by
  rw [pos]; split
  ·
   exact pos_before x m j
  ·
   rename_i h
   right
   rw [Nat.add_sub_cancel]
   exact Bool.eq_false_iff.2 h
theorem pos_behind (x : S45) (m : List S45) : ∀ j i, pos x m j ≤ i → i < j → ltK x (rd_T45 m (i : Int)) = true
 | 0, _, _, h => absurd h (by omega)
 | j + 1, i, h1, h2 => by
  rw [pos] at h1
  split at h1
  ·
   rename_i h
   by_cases e : i = j
   ·
    subst e; exact h
   ·
    exact pos_behind x m j i h1 (by omega)
  ·
   omega
def ins (x : S45) (m : List S45) : List S45 := m.take (pos x m m.length) ++ [x] ++ m.drop (pos x m m.length)
theorem ins_len (x : S45) (m : List S45) : (ins x m).length = m.length + 1 := by
 have := pos_le x m m.length
 simp [ins]; omega
theorem ins_perm (x : S45) (m : List S45) : (ins x m).Perm (x :: m) := by
 unfold ins
 have h : (m.take (pos x m m.length) ++ [x] ++ m.drop (pos x m m.length)).Perm ([x] ++ (m.take (pos x m m.length) ++ m.drop (pos x m m.length))) := by
  rw [List.append_assoc]
  have := List.perm_append_comm_assoc (m.take (pos x m m.length)) [x] (m.drop (pos x m m.length))
  exact this
 rw [List.take_append_drop] at h
 exact h
abbrev Srt (m : List S45) : Prop := m.Pairwise fun a b => ltK b a = false
theorem ins_sorted (x : S45) (m : List S45) (hm : Srt m) : Srt (ins x m) := by
 have hp := pos_le x m m.length
 have hb := pos_before x m m.length
 have hh := pos_behind x m m.length
 unfold ins
 generalize pos x m m.length = p at *
 have hd : ∀ b ∈ m.drop p, ltK b x = false := fun b hbm => by
  obtain ⟨i, hi, e⟩ := List.getElem_of_mem hbm
  rw [List.length_drop] at hi
  rw [List.getElem_drop] at e
  have := hh (p + i) (by omega) (by omega)
  rw [rd_at m (p + i) (by omega), e] at this
  exact ltK_asym this
 have ht : ∀ a ∈ m.take p, ltK x a = false := fun a ham => by
  obtain ⟨i, hi, e⟩ := List.getElem_of_mem ham
  rw [List.length_take] at hi
  rw [List.getElem_take] at e
  rcases hb with h0 | hb
  ·
   omega
  ·
   rw [rd_at m (p - 1) (by omega)] at hb
   by_cases hip : i = p - 1
   ·
    subst hip; rw [e] at hb; exact hb
   ·
    have := List.pairwise_iff_getElem.1 hm i (p - 1) (by omega) (by omega) (by omega)
    rw [e] at this
    exact ltK_ntrans hb this
 rw [List.append_assoc]
 refine List.pairwise_append.2 ⟨hm.sublist (List.take_sublist _ _), List.pairwise_append.2 ⟨List.pairwise_singleton _ _, hm.sublist (List.drop_sublist _ _), fun a ha b hb' => ?_⟩, fun a ha b hb' => ?_⟩
 ·
  rw [List.mem_singleton] at ha; subst ha; exact hd b hb'
 ·
  rcases List.mem_append.1 hb' with h | h
  ·
   rw [List.mem_singleton] at h; subst h; exact ht a ha
  ·
   have := hm
   rw [← List.take_append_drop p m] at this
   exact (List.pairwise_append.1 this).2.2 a ha b h
def insAll : List S45 → List S45 → List S45
  | m, [] => m
  | m, x :: l => insAll (ins x m) l
theorem insAll_perm : ∀ (l m : List S45), (insAll m l).Perm (m ++ l)
 | [], m => by rw [insAll, List.append_nil]
 | x :: l, m => by
  rw [insAll]
  refine (insAll_perm l (ins x m)).trans ?_
  refine ((ins_perm x m).append_right l).trans ?_
  exact List.perm_middle.symm
theorem insAll_sorted : ∀ (l m : List S45), Srt m → Srt (insAll m l)
 | [], m, h => h
 | x :: l, m, h => insAll_sorted l (ins x m) (ins_sorted x m h)
theorem ref_l1 (l : List S45) (hl : l.length ≤ 16) (m : List S45) (hm : m.length ≤ 16) (i : Nat) (hi : i < l.length) (v : List S45 × Int) (K : Nat) :
  ∀ (j : Nat), j ≤ m.length → (∀ k, K ≤ k → belfryref04_Make.l0 k l (m.take (pos l[i] m j) ++ [l[i]] ++ m.drop (pos l[i] m j)) ((i + 1 : Nat) : Int) = some v) → ∀ k, K + j + 1 ≤ k → belfryref04_Make.l1 k l m (i : Int) (j : Int) = some v
 | _, _, _, 0, hk => absurd hk (by omega)
 | 0, hj, hn, k + 1, hk => by
  have := hn k (by omega)
  rw [pos] at this
  rw [belfryref04_Make.l1, if_neg (by omega), if_pos (by omega), if_pos (by omega), Option.bind_some, if_pos (by simp), Option.bind_some, if_pos (by omega), if_pos (by omega), if_pos (by simp), Option.bind_some, Option.bind_some, if_pos (by simp; omega), wrap_small (n := (i : Int) + 1) (by omega) (by omega), rd_at l i hi]
  exact this
 | j + 1, hj, hn, k + 1, hk => by
  have e1 : wrap64 (((j + 1 : Nat) : Int) - 1) = ((j : Nat) : Int) := by rw [wrap_small (by omega) (by omega)]; omega
  rw [belfryref04_Make.l1, if_pos (by omega), e1, if_pos (by omega), if_pos (by omega), if_pos (by omega), if_pos (by omega), rd_at l i hi]
  simp only [Lib.toList_data]
  by_cases h : ltK l[i] (rd_T45 m (j : Int)) = true
  ·
   have hn' : ∀ k, K ≤ k → belfryref04_Make.l0 k l (m.take (pos l[i] m j) ++ [l[i]] ++ m.drop (pos l[i] m j)) ((i + 1 : Nat) : Int) = some v := fun k hk => by
    have := hn k hk
    rw [pos, if_pos h] at this
    exact this
   rw [if_pos (show Op.bytesLess l[i].f0.data.toList (rd_T45 m (j : Int)).f0.data.toList = true from h)]
   exact ref_l1 l hl m hm i hi v K j (by omega) hn' k (by omega)
  ·
   have := hn k (by omega)
   rw [pos, if_neg h] at this
   have ht : (m.take (j + 1)).length = j + 1 := by rw [List.length_take]; omega
   have hd : (m.drop (j + 1)).length = m.length - (j + 1) := List.length_drop ..
   rw [if_neg (show ¬ Op.bytesLess l[i].f0.data.toList (rd_T45 m (j : Int)).f0.data.toList = true from h), if_pos (by omega), if_pos (by omega), Option.bind_some, Int.toNat_natCast, if_pos (by rw [ht]; simp; omega), Option.bind_some, if_pos (by rw [List.nil_append, ht]; omega), Option.bind_some, Option.bind_some, if_pos (by simp only [List.nil_append, List.length_append, ht, hd, List.length_cons, List.length_nil]; omega), wrap_small (n := (i : Int) + 1) (by omega) (by omega)]
   exact this
theorem ref_l0 (l : List S45) (hl : l.length ≤ 16) : ∀ (n i : Nat) (m : List S45), i + n = l.length → m.length = i →
  Ev (fun k => belfryref04_Make.l0 k l m (i : Int)) (if faultOf (l.drop i) ≠ 0 then ([], faultOf (l.drop i)) else if dupAdj (insAll m (l.drop i)) then ([], 6) else (insAll m (l.drop i), 0))
 | 0, i, m, hn, hm => by
  have hd : l.drop i = [] := List.drop_of_length_le (by omega)
  refine ⟨m.length + 3, fun k hk => ?_⟩
  obtain ⟨k, rfl⟩ : ∃ j, k = j + 1 := ⟨k - 1, by omega⟩
  dsimp only
  rw [belfryref04_Make.l0, if_neg (by omega), hd, if_neg (by simp [faultOf]), insAll]
  have := ref_l2 m (by omega) (m.length - 1) 1 (by omega) (by omega) k (by omega)
  rw [show ((1 : Nat) : Int) = 1 from rfl] at this
  rw [this]
  cases m with
  | nil => simp [dupAdj]
  | cons a t => simp
 | n + 1, i, m, hn, hm => by
  have hi : i < l.length := by omega
  obtain ⟨K, hK⟩ := ref_l0 l hl n (i + 1) (ins l[i] m) (by omega) (by rw [ins_len]; omega)
  obtain ⟨V, hV⟩ := ref_value_eq l[i].f1
  refine ⟨K + V + m.length + 80, fun k hk => ?_⟩
  obtain ⟨k, rfl⟩ : ∃ j, k = j + 1 := ⟨k - 1, by omega⟩
  dsimp only
  rw [belfryref04_Make.l0, if_pos (by omega), if_pos (by omega), rd_at l i hi, ref_key_eq _ k (by omega), Option.bind_some, drop_cons l i hi, faultOf]
  cases hk1 : keyB l[i].f0 with
  | false => simp
  | true =>
   have hV' := hV k (by omega)
   dsimp only at hV'
   rw [if_pos rfl, hV', Option.bind_some]
   cases hv : valB l[i].f1 with
   | false => simp
   | true =>
    rw [if_pos rfl]
    refine (ref_l1 l hl m (by omega) i hi _ K m.length (Nat.le_refl _) (fun k hk => hK k hk) k (by omega)).trans ?_
    simp only [if_true, insAll]
    rfl
theorem strict_of (m : List S45) (hm : Srt m) (h : dupAdj m = false) : m.Pairwise fun a b => ltK a b = true := by
 induction m with
 | nil => exact List.Pairwise.nil
 | cons x t ih =>
  cases t with
  | nil => exact List.pairwise_singleton _ _
  | cons y t =>
   rw [dupAdj, Bool.or_eq_false_iff] at h
   obtain ⟨h1, h2⟩ := h
   have hm' := List.pairwise_cons.1 hm
   have iht := ih hm'.2 h2
   have hxy : ltK x y = true := ltK_total (hm'.1 y (List.mem_cons_self ..)) (beq_eq_false_iff_ne.1 h1)
   refine List.pairwise_cons.2 ⟨fun b hb => ?_, iht⟩
   rcases List.mem_cons.1 hb with rfl | hb
   ·
    exact hxy
   ·
    exact ltK_trans hxy ((List.pairwise_cons.1 iht).1 b hb)
theorem ne_of_lt {a b : S45} (h : ltK a b = true) : keyL a ≠ keyL b := fun e => by
 unfold ltK at h
 rw [e, bytesLess_irrefl] at h
 cases h
theorem dup_of_ne : ∀ m : List S45, (m.Pairwise fun a b => keyL a ≠ keyL b) → dupAdj m = false
 | [], _ => rfl
 | [_], _ => rfl
 | x :: y :: t, h => by
  have h' := List.pairwise_cons.1 h
  rw [dupAdj, dup_of_ne (y :: t) h'.2, beq_eq_false_iff_ne.2 (h'.1 y (List.mem_cons_self ..))]
  rfl
theorem dup_perm {m m' : List S45} (hp : m.Perm m') (hm : Srt m) (h : dupAdj m = false) : dupAdj m' = false := by
 have h1 := (strict_of m hm h).imp ne_of_lt
 exact dup_of_ne m' ((hp.pairwise_iff (fun {a b} (e : keyL a ≠ keyL b) => e.symm)).1 h1)
theorem same_sorted {m m' : List S45} (hp : m.Perm m') (hm : Srt m) (hm' : Srt m') (h : dupAdj m = false) : m = m' :=
 hp.eq_of_pairwise (fun a b _ _ h1 h2 => absurd h2 (by rw [ltK_asym h1]; simp)) (strict_of m hm h) (strict_of m' hm' (dup_perm hp hm h))
theorem sorted_srt (l : List S45) : Srt (sorted45 l) := by
 obtain ⟨_, h2, h3⟩ := sorted45_perm l
 refine List.pairwise_iff_getElem.2 fun i j hi hj hij => ?_
 have := h3 i j (Nat.zero_le _) hij (by omega)
 rw [cmpKey_lt] at this
 simp [hi, hj] at this
 exact this
def setOf (l : List S45) : List S45 × Int :=
  if (l.length : Int) > 16 then ([], 7) else if faultOf l ≠ 0 then ([], faultOf l) else if dupAdj (sorted45 l) then ([], 6) else (sorted45 l, 0)
theorem make_eq (l : List S45) : Ev (fun k => attr_Make.f k l) (setOf l) := by
 refine ⟨200, fun k hk => ?_⟩
 dsimp only
 unfold attr_Make.f setOf
 by_cases h : (l.length : Int) > 16
 ·
  rw [if_pos h, if_pos h]
 ·
  rw [if_neg h, if_neg h]
  have := make_l0 l (by omega) l.length 0 (by omega) k (by omega)
  rw [show ((0 : Nat) : Int) = 0 from rfl, List.drop_zero] at this
  exact this
theorem ref_make_eq (l : List S45) : Ev (fun k => belfryref04_Make.f k l) (setOf l) := by
 unfold belfryref04_Make.f setOf
 by_cases h : (l.length : Int) > 16
 ·
  refine ⟨0, fun k _ => ?_⟩
  dsimp only
  rw [if_pos h, if_pos h]
 ·
  obtain ⟨K, hK⟩ := ref_l0 l (by omega) l.length 0 [] (by omega) rfl
  refine ⟨K, fun k hk => ?_⟩
  have := hK k hk
  dsimp only at this ⊢
  rw [show ((0 : Nat) : Int) = 0 from rfl, List.drop_zero] at this
  rw [if_neg h, if_neg h, this]
  have hp : (sorted45 l).Perm (insAll [] l) := (sorted45_perm l).1.trans (insAll_perm l []).symm
  have hs := sorted_srt l
  have hi : Srt (insAll [] l) := insAll_sorted l [] List.Pairwise.nil
  cases hd : dupAdj (sorted45 l) with
  | false =>
   rw [dup_perm hp hs hd, ← same_sorted hp hs hi hd]
  | true =>
   cases hd' : dupAdj (insAll [] l) with
   | true => rfl
   | false => rw [dup_perm hp.symm hi hd'] at hd; cases hd
end Go.Proofs.YtnfanpjfhdlddaaGreatDoor.Pr
end
section
set_option linter.unusedVariables false
set_option linter.unusedSimpArgs false
namespace Go.Proofs.YtnfanpjfhdlddaaGreatDoor.Pr
open Go.RowKit Go.Proofs.YtnfanpjfhdlddaaGreatDoorW.PrintWords Go.Proofs.YtnfanpjfhdlddaaGreatDoorW.PrintLast Go.Proofs.YtnfanpjfhdlddaaGreatDoorW.PrintMore
def attr_reader_peek.f (s0_0 : ByteArray) (s0_1 : Int) (s0_2 : Bool) : Option Int := if s0_1 < (s0_0.size : Int) then (if 0 ≤ s0_1 then some (bt s0_0 s0_1) else none) else some 0
set_option maxHeartbeats 8000000 in
set_option maxRecDepth 100000 in
theorem attr_reader_peek.calls (g : Nat) (s0_0 : ByteArray) (s0_1 : Int) (s0_2 : Bool) (r : Int) (w0 w : World) (hI : IsS103 w0 w g s0_0 s0_1 s0_2) (hB : Below w0.heap.size w0 w) (h : attr_reader_peek.f s0_0 s0_1 s0_2 = some r) :
  Calls Tryz.prog 117 #[.pointer (some ⟨g, 0, none⟩)] w fun e w' => e = .returned (.int .u8 r) ∧ Drawn0 w w' := by
 clear hB
 unfold attr_reader_peek.f at h
 obtain ⟨HG, hg⟩ := hI
 have hc0 := cellS103_0 HG
 have hc1 := cellS103_1 HG
 have hc2 := cellS103_2 HG
 have hf0 := blk_frozen HG 0
 have hf1 := blk_frozen HG 1
 have hf2 := blk_frozen HG 2
 clear HG hg
 by_cases c2 : s0_1 < (s0_0.size : Int)
 ·
  rw [if_pos c2] at h
  have c2b0 : decide (s0_1 < (s0_0.size : Int)) = true := decide_eq_true c2
  by_cases c3 : 0 ≤ s0_1
  ·
   rw [if_pos c3] at h
   obtain rfl := Option.some.inj h
   clear h
   have hx4 := bt_at s0_0 s0_1
   replace c2 := eq_true c2
   replace c3 := eq_true c3
   go_enter Tryz.func117, Tryz.ntmps117
   go_wp2
   repeat (go_quiet (fail); try go_wp2)
   go_ret
   first | exact ⟨rfl, ⟨⟨_, rfl⟩⟩⟩ | exact ⟨rfl, ⟨⟨_, World.drewN_drewN _ _ _⟩⟩⟩ | exact ⟨rfl, Drawn0.refl _⟩
  ·
   rw [if_neg c3] at h
   cases h
 ·
  rw [if_neg c2] at h
  obtain rfl := Option.some.inj h
  clear h
  have c2b0 : decide (s0_1 < (s0_0.size : Int)) = false := decide_eq_false c2
  clear c2
  go_enter Tryz.func117, Tryz.ntmps117
  go_wp2
  repeat (go_quiet (fail); try go_wp2)
  go_ret
  first | exact ⟨rfl, ⟨⟨_, rfl⟩⟩⟩ | exact ⟨rfl, ⟨⟨_, World.drewN_drewN _ _ _⟩⟩⟩ | exact ⟨rfl, Drawn0.refl _⟩
end Go.Proofs.YtnfanpjfhdlddaaGreatDoor.Pr
end
