import Derived.Test.YtkedidjjhhjdbaaGreatDoorS5
import Derived.Test.YtkedidjjhhjdbaaGreatDoorS3
import Derived.Lib.ValidLaws
import Derived.Maps.OwnSet
import Derived.Test.YtkedidjjhhjdbaaGreatDoorS2
import Derived.Lib.SliceRun
import Derived.Sort.AssemblyPlain
import Derived.Shelf.SlSortCmp.WholeK
import Derived.Shelf.SlGeneric
import Derived.Shelf.SlSortCmp.NoneTotal
import Derived.Ground.SlgnProg
import Derived.Ground.SlsfProg
import Derived.Test.YtkedidjjhhjdbaaGreatDoorProg
section
namespace Go.Proofs.YtkedidjjhhjdbaaGreatDoor.Pr
open Go.RowKit Go.Proofs.YtkedidjjhhjdbaaGreatDoorW.PrintWords Go.Proofs.YtkedidjjhhjdbaaGreatDoorW.PrintLast Go.Proofs.YtkedidjjhhjdbaaGreatDoorW.PrintMore
attribute [local go_sem] max2_int min2_int max_two min_two max_three min_three max_four min_four strGtr strLeq strGeq
set_option linter.unusedVariables false
set_option linter.unusedSimpArgs false
def attr_plain.f (a0 : ByteArray) : Option (Bool) := if (a0.size : Int) ≤ 256 then ((utf8_ValidString.f a0).bind fun t106 => (some t106)) else (some false)
set_option maxHeartbeats 8000000 in
set_option maxRecDepth 100000 in
theorem attr_plain.calls (a0 : ByteArray) (r : Bool) (w : World) (h : attr_plain.f a0 = some r) (he_ : EnvW w := by repeat (first | with_reducible assumption | with_reducible exact env_of (by with_reducible assumption) (by with_reducible assumption) | with_reducible exact env_out (by with_reducible assumption) | with_reducible apply env_alloc | with_reducible apply env_drewN | with_reducible apply env_drew | with_reducible refine env_set ?_ (by with_reducible assumption) (by with_reducible assumption))) :
  Calls Tryz.prog 93 #[.string a0] w fun e w' => e = .returned (.bool r) ∧ Below w.heap.size w w' := by
 have HE_ := Aside0.mk he_
 clear he_
 have HB := Aside0.mk (Below.refl w.heap.size w)
 have H : (if (a0.size : Int) ≤ 256 then ((utf8_ValidString.f a0).bind fun t106 => (some t106)) else (some false)) = some r := h
 clear h
 by_cases c2 : (a0.size : Int) ≤ 256
 ·
  rw [if_pos c2] at H
  have c2b0 : decide ((a0.size : Int) ≤ 256) = true := decide_eq_true c2
  have c2b1 : decide (a0.size ≤ 256) = true := decide_eq_true (by omega)
  clear c2
  replace H := Option.bind_eq_some_iff.mp H
  obtain ⟨t106, A30, H⟩ := H
  replace H : (some t106) = some r := H
  have A3 := Aside0.mk A30
  clear A30
  obtain rfl := Option.some.inj H
  go_enter Tryz.func93, Tryz.ntmps93
  go_wp2_with (first | (go_at_call 118; (with_reducible refine (utf8_ValidString.calls a0 t106 _ A3.out).mono ?_); rintro e w4 ⟨rfl, hb⟩; have n0_ := Aside0.mk (below_step (by repeat (first | (with_reducible first | exact HB.out | apply below_alloc | apply pw_below_drewN | apply below_drew1) | exact HB.out)) hb); clear HB; have HB := n0_; clear n0_; (try clear hb); (try clear hb2); (try clear hk); (try clear hi)))
  go_ret
  exact ⟨by first | rfl | (simp [errW_none, errW_some] <;> rfl) | (simp [*, errW_none, errW_some] <;> rfl), by repeat (first | (with_reducible first | exact HB.out | apply below_alloc | apply pw_below_drewN | apply below_drew1) | exact HB.out)⟩
 ·
  rw [if_neg c2] at H
  have c2b0 : decide ((a0.size : Int) ≤ 256) = false := decide_eq_false c2
  have c2b1 : decide (a0.size ≤ 256) = false := decide_eq_false (by omega)
  clear c2
  obtain rfl := Option.some.inj H
  go_enter Tryz.func93, Tryz.ntmps93
  go_wp2
  go_ret
  exact ⟨by first | rfl | (simp [errW_none, errW_some] <;> rfl) | (simp [*, errW_none, errW_some] <;> rfl), by repeat (first | (with_reducible first | exact HB.out | apply below_alloc | apply pw_below_drewN | apply below_drew1) | exact HB.out)⟩
def attr_wrong.l0 : Nat → List (S33) → Int → Int → Option (Int)
  | 0, _, _, _ => none
  | k + 1, x5, x6, x7 => if x7 < x6 then (if 0 ≤ x7 then (if x7 < (x5.length : Int) then ((attr_sign.f ((rd_T33 x5 x7).f0)).bind fun t109 => (if t109.toList = ([] : List UInt8) then (some 42) else ((attr_Key.f k ((rd_T33 x5 x7).f1)).bind fun t110 => (if t110 = true then ((attr_plain.f ((rd_T33 x5 x7).f2)).bind fun t111 => (if t111 = true then (attr_wrong.l0 k x5 x6 (wrap64 (x7 + 1))) else (some 41))) else (some 40))))) else (none)) else (none)) else (some 0)
def attr_wrong.f (k : Nat) (l0 : List (S33)) : Option (Int) := attr_wrong.l0 k l0 (l0.length : Int) 0
set_option maxHeartbeats 8000000 in
set_option maxRecDepth 100000 in
theorem attr_wrong.calls (k : Nat) (A0 : Option Addr) (c0 : Nat) (l0 : List (S33)) (r : Int) (w : World) (hr0 : Kd.C k33 w A0 l0.length l0) (hc0 : l0.length ≤ c0) (h : attr_wrong.f k l0 = some r) (he_ : EnvW w := by repeat (first | with_reducible assumption | with_reducible exact env_of (by with_reducible assumption) (by with_reducible assumption) | with_reducible exact env_out (by with_reducible assumption) | with_reducible apply env_alloc | with_reducible apply env_drewN | with_reducible apply env_drew | with_reducible refine env_set ?_ (by with_reducible assumption) (by with_reducible assumption))) :
  Calls Tryz.prog 63 #[.slice A0 l0.length c0] w fun e w' => e = .returned (.int .i64 r) ∧ Below w.heap.size w w' := by
 have HE_ := Aside0.mk he_
 clear he_
 have hu33 := Tryz.underlying33
 have HR0 := Aside0.mk hr0
 have HC0 := Aside0.mk hc0
 clear hr0 hc0
 have HB := Aside0.mk (Below.refl w.heap.size w)
 have H : (attr_wrong.l0 k l0 (l0.length : Int) 0) = some r := h
 clear h
 have H' := Aside0.mk H
 clear H
 go_enter Tryz.func63, Tryz.ntmps63
 go_wp2
 go_loopg [7] k (fun kq v7 w' => ∃ (x7_1 : Int), v7 = .int .i64 x7_1 ∧ Aside0 (attr_wrong.l0 kq l0 (l0.length : Int) x7_1 = some r) ∧ Aside0 (kq ≤ k) ∧ Aside0 (Below w.heap.size w w'))
 case atStart => exact ⟨(0), (by first | rfl | (simp; done) | (simp [*]; done)), H', ⟨Nat.le_refl _⟩, ⟨by repeat (first | (with_reducible first | exact HB.out | apply below_alloc | apply pw_below_drewN | apply below_drew1) | exact HB.out)⟩⟩
 case round =>
  clear H'
  obtain ⟨x7_1, rfl, HA, HK1, HB⟩ := hrel
  cases gk with
  | zero => exact absurd HA.out (by simp [attr_wrong.l0])
  | succ k1 =>
   have H := HA.out
   clear HA
   simp only [attr_wrong.l0] at H
   by_cases c2 : x7_1 < (l0.length : Int)
   ·
    rw [if_pos c2] at H
    have c2b0 : decide (x7_1 < (l0.length : Int)) = true := decide_eq_true c2
    clear c2
    by_cases c3 : 0 ≤ x7_1
    ·
     rw [if_pos c3] at H
     have c3b0 : decide (0 ≤ x7_1) = true := decide_eq_true c3
     clear c3
     by_cases c4 : x7_1 < (l0.length : Int)
     ·
      rw [if_pos c4] at H
      have c4b0 : decide (x7_1 < (l0.length : Int)) = true := decide_eq_true c4
      clear c4
      replace H := Option.bind_eq_some_iff.mp H
      obtain ⟨t109, A50, H⟩ := H
      replace H : (if t109.toList = ([] : List UInt8) then (some 42) else ((attr_Key.f k1 ((rd_T33 l0 x7_1).f1)).bind fun t110 => (if t110 = true then ((attr_plain.f ((rd_T33 l0 x7_1).f2)).bind fun t111 => (if t111 = true then (attr_wrong.l0 k1 l0 (l0.length : Int) (wrap64 (x7_1 + 1))) else (some 41))) else (some 40)))) = some r := H
      have A5 := Aside0.mk A50
      clear A50
      by_cases c6 : t109.toList = ([] : List UInt8)
      ·
       rw [if_pos c6] at H
       have c6b0 : (t109.toList == ([] : List UInt8)) = true := beq_iff_eq.mpr c6
       have c6b1 : (t109.toList != ([] : List UInt8)) = false := bne_eq_false_iff_eq.mpr c6
       clear c6
       obtain rfl := Option.some.inj H
       have p107 : 0 ≤ (x7_1 : Int) := of_decide_eq_true (by first | (with_reducible assumption) | assumption)
       have q107 : x7_1 < (l0.length : Int) := of_decide_eq_true (by first | (with_reducible assumption) | assumption)
       obtain ⟨ad107, e107, hx107_0, hx107_1, hx107_2⟩ := at_T33 HR0.out x7_1 p107 q107
       cases e107
       replace hx107_0 := (HB.out.cell (World.block_lt_of_cell? w _ hx107_0)).trans hx107_0
       replace hx107_1 := (HB.out.cell (World.block_lt_of_cell? w _ hx107_1)).trans hx107_1
       replace hx107_2 := (HB.out.cell (World.block_lt_of_cell? w _ hx107_2)).trans hx107_2
       replace p107 := eq_true p107
       replace q107 := eq_true q107
       go_wp2_with (first | ((with_reducible refine gate_dst (N := 4) rfl ?_); refine box_event ?hg (N := 4) ?hd (cs := #[.int .i64 0, .string (⟨#[]⟩ : ByteArray), .string (⟨#[]⟩ : ByteArray)]) (t := 33) ?hr ?_; (case hd => rfl); (case hg => rfl); (case hr => first | (go_simp; done) | (go_simp; rfl)); intro gb108 hg w7 hbox hb; have n0_ := Aside0.mk (below_step (by repeat (first | (with_reducible first | exact HB.out | apply below_alloc | apply pw_below_drewN | apply below_drew1) | exact HB.out)) hb); have n1_ := Aside0.mk (hbox); have n2_ := Aside0.mk ((by rw [hg]; exact (below_size (by repeat (first | (with_reducible first | exact HB.out | apply below_alloc | apply pw_below_drewN | apply below_drew1) | exact HB.out))) : w.heap.size ≤ gb108)); have n3_ := Aside0.mk ((by rw [hg]; exact (below_size (by repeat (first | (with_reducible first | exact HB.out | apply below_alloc | apply pw_below_drewN | apply below_drew1) | exact HB.out))) : w.heap.size ≤ gb108)); clear HB; have HB := n0_; have BK108 := n1_; have GW108 := n2_; have GE108 := n3_; clear n0_ n1_ n2_ n3_; clear hb hbox hg; have hcz8_0 : w7.cell? ⟨gb108, 0, none⟩ = some (.int .i64 0) := (blk_cell BK108.out 0).trans rfl; have hcz8_1 : w7.cell? ⟨gb108, 1, none⟩ = some (.string (⟨#[]⟩ : ByteArray)) := (blk_cell BK108.out 1).trans rfl; have hcz8_2 : w7.cell? ⟨gb108, 2, none⟩ = some (.string (⟨#[]⟩ : ByteArray)) := (blk_cell BK108.out 2).trans rfl; have hfz8_0 := blk_frozen BK108.out 0; have hfz8_1 := blk_frozen BK108.out 1; have hfz8_2 := blk_frozen BK108.out 2) | ((with_reducible refine gate_callee (f := 92) rfl ?_); refine goesL_ (some 14) rfl rfl Tryz.func92 (by kernel_rfl) rfl #[.int .i64 ((rd_T33 l0 x7_1).f0)] rfl (by (try simp only [List.map_toArray, List.map_cons, List.map_nil]); first | done | rfl | (simp only [List.length_drop, List.length_take]; rfl)) ?_; (with_reducible refine (attr_sign.calls ((rd_T33 l0 x7_1).f0) t109 _ A5.out).mono ?_); rintro e w' ⟨rfl, ⟨nd, rfl⟩⟩; refine ⟨_, rfl, ?_⟩))
       go_ret
       exact ⟨by first | rfl | (simp [errW_none, errW_some] <;> rfl) | (simp [*, errW_none, errW_some] <;> rfl), by repeat (first | (with_reducible first | exact HB.out | apply below_alloc | apply pw_below_drewN | apply below_drew1 | refine below_set ?_ GE108.out) | exact HB.out)⟩
      ·
       rw [if_neg c6] at H
       have c6b0 : (t109.toList == ([] : List UInt8)) = false := beq_eq_false_iff_ne.mpr c6
       have c6b1 : (t109.toList != ([] : List UInt8)) = true := bne_iff_ne.mpr c6
       replace H := Option.bind_eq_some_iff.mp H
       obtain ⟨t110, A90, H⟩ := H
       replace H : (if t110 = true then ((attr_plain.f ((rd_T33 l0 x7_1).f2)).bind fun t111 => (if t111 = true then (attr_wrong.l0 k1 l0 (l0.length : Int) (wrap64 (x7_1 + 1))) else (some 41))) else (some 40)) = some r := H
       have A9 := Aside0.mk A90
       clear A90
       by_cases c10 : t110 = true
       ·
        subst c10
        have H1 : ((attr_plain.f ((rd_T33 l0 x7_1).f2)).bind fun t111 => (if t111 = true then (attr_wrong.l0 k1 l0 (l0.length : Int) (wrap64 (x7_1 + 1))) else (some 41))) = some r := by rw [if_pos rfl] at H; exact H
        clear H
        have H := H1
        clear H1
        replace H := Option.bind_eq_some_iff.mp H
        obtain ⟨t111, A110, H⟩ := H
        replace H : (if t111 = true then (attr_wrong.l0 k1 l0 (l0.length : Int) (wrap64 (x7_1 + 1))) else (some 41)) = some r := H
        have A11 := Aside0.mk A110
        clear A110
        by_cases c12 : t111 = true
        ·
         subst c12
         have H1 : (attr_wrong.l0 k1 l0 (l0.length : Int) (wrap64 (x7_1 + 1))) = some r := by rw [if_pos rfl] at H; exact H
         clear H
         have H := H1
         clear H1
         have H' := Aside0.mk H
         clear H
         have p107 : 0 ≤ (x7_1 : Int) := of_decide_eq_true (by first | (with_reducible assumption) | assumption)
         have q107 : x7_1 < (l0.length : Int) := of_decide_eq_true (by first | (with_reducible assumption) | assumption)
         obtain ⟨ad107, e107, hx107_0, hx107_1, hx107_2⟩ := at_T33 HR0.out x7_1 p107 q107
         cases e107
         replace hx107_0 := (HB.out.cell (World.block_lt_of_cell? w _ hx107_0)).trans hx107_0
         replace hx107_1 := (HB.out.cell (World.block_lt_of_cell? w _ hx107_1)).trans hx107_1
         replace hx107_2 := (HB.out.cell (World.block_lt_of_cell? w _ hx107_2)).trans hx107_2
         replace p107 := eq_true p107
         replace q107 := eq_true q107
         go_wp2_with (first | ((with_reducible refine gate_dst (N := 4) rfl ?_); refine box_event ?hg (N := 4) ?hd (cs := #[.int .i64 0, .string (⟨#[]⟩ : ByteArray), .string (⟨#[]⟩ : ByteArray)]) (t := 33) ?hr ?_; (case hd => rfl); (case hg => rfl); (case hr => first | (go_simp; done) | (go_simp; rfl)); intro gb108 hg w13 hbox hb; have n0_ := Aside0.mk (below_step (by repeat (first | (with_reducible first | exact HB.out | apply below_alloc | apply pw_below_drewN | apply below_drew1) | exact HB.out)) hb); have n1_ := Aside0.mk (hbox); have n2_ := Aside0.mk ((by rw [hg]; exact (below_size (by repeat (first | (with_reducible first | exact HB.out | apply below_alloc | apply pw_below_drewN | apply below_drew1) | exact HB.out))) : w.heap.size ≤ gb108)); have n3_ := Aside0.mk ((by rw [hg]; exact (below_size (by repeat (first | (with_reducible first | exact HB.out | apply below_alloc | apply pw_below_drewN | apply below_drew1) | exact HB.out))) : w.heap.size ≤ gb108)); clear HB; have HB := n0_; have BK108 := n1_; have GW108 := n2_; have GE108 := n3_; clear n0_ n1_ n2_ n3_; clear hb hbox hg; have hcz14_0 : w13.cell? ⟨gb108, 0, none⟩ = some (.int .i64 0) := (blk_cell BK108.out 0).trans rfl; have hcz14_1 : w13.cell? ⟨gb108, 1, none⟩ = some (.string (⟨#[]⟩ : ByteArray)) := (blk_cell BK108.out 1).trans rfl; have hcz14_2 : w13.cell? ⟨gb108, 2, none⟩ = some (.string (⟨#[]⟩ : ByteArray)) := (blk_cell BK108.out 2).trans rfl; have hfz14_0 := blk_frozen BK108.out 0; have hfz14_1 := blk_frozen BK108.out 1; have hfz14_2 := blk_frozen BK108.out 2) | ((with_reducible refine gate_callee (f := 92) rfl ?_); refine goesL_ (some 14) rfl rfl Tryz.func92 (by kernel_rfl) rfl #[.int .i64 ((rd_T33 l0 x7_1).f0)] rfl (by (try simp only [List.map_toArray, List.map_cons, List.map_nil]); first | done | rfl | (simp only [List.length_drop, List.length_take]; rfl)) ?_; (with_reducible refine (attr_sign.calls ((rd_T33 l0 x7_1).f0) t109 _ A5.out).mono ?_); rintro e w' ⟨rfl, ⟨nd, rfl⟩⟩; refine ⟨_, rfl, ?_⟩) | ((with_reducible refine gate_callee (f := 52) rfl ?_); refine goesL_ (some 19) rfl rfl Tryz.func52 (by kernel_rfl) rfl #[.string ((rd_T33 l0 x7_1).f1)] rfl (by (try simp only [List.map_toArray, List.map_cons, List.map_nil]); first | done | rfl | (simp only [List.length_drop, List.length_take]; rfl)) ?_; (with_reducible refine (attr_Key.calls k1 ((rd_T33 l0 x7_1).f1) true _ A9.out).mono ?_); rintro e w' ⟨rfl, ⟨nd, rfl⟩⟩; refine ⟨_, rfl, ?_⟩) | ((with_reducible refine gate_callee (f := 93) rfl ?_); refine goesL_ (some 24) rfl rfl Tryz.func93 (by kernel_rfl) rfl #[.string ((rd_T33 l0 x7_1).f2)] rfl (by (try simp only [List.map_toArray, List.map_cons, List.map_nil]); first | done | rfl | (simp only [List.length_drop, List.length_take]; rfl)) ?_; (with_reducible refine (attr_plain.calls ((rd_T33 l0 x7_1).f2) true _ A11.out).mono ?_); rintro e w15 ⟨rfl, hb⟩; refine ⟨_, rfl, ?_⟩; have n0_ := Aside0.mk (blk_below (g := gb108) (o := .cells #[.int .i64 ((rd_T33 l0 x7_1).f0), .string ((rd_T33 l0 x7_1).f1), .string ((rd_T33 l0 x7_1).f2)] 33 (0, 0)) (by (with_reducible repeat (first | refine blk_drewN ?_ _ | refine blk_drew ?_ | refine blk_alloc ?_ _)); refine blk_put (cs := #[.int .i64 ((rd_T33 l0 x7_1).f0), .string ((rd_T33 l0 x7_1).f1), .string (⟨#[]⟩ : ByteArray)]) ?_ 2 _ rfl; (with_reducible repeat (first | refine blk_drewN ?_ _ | refine blk_drew ?_ | refine blk_alloc ?_ _)); refine blk_put (cs := #[.int .i64 ((rd_T33 l0 x7_1).f0), .string (⟨#[]⟩ : ByteArray), .string (⟨#[]⟩ : ByteArray)]) ?_ 1 _ rfl; (with_reducible repeat (first | refine blk_drewN ?_ _ | refine blk_drew ?_ | refine blk_alloc ?_ _)); refine blk_put (cs := #[.int .i64 0, .string (⟨#[]⟩ : ByteArray), .string (⟨#[]⟩ : ByteArray)]) ?_ 0 _ rfl; (with_reducible repeat (first | refine blk_drewN ?_ _ | refine blk_drew ?_ | refine blk_alloc ?_ _)); exact BK108.out) hb); have n1_ := Aside0.mk (below_step (by repeat (first | (with_reducible first | exact HB.out | apply below_alloc | apply pw_below_drewN | apply below_drew1 | refine below_set ?_ GE108.out) | exact HB.out)) hb); clear BK108; clear HB; have BK108 := n0_; have HB := n1_; clear n0_ n1_; (try clear hb); (try clear hb2); (try clear hk); (try clear hi)))
         go_roundg k1
         case measure => have := HK1.out; omega
         case rel => exact ⟨(wrap64 (x7_1 + 1)), (by first | rfl | (simp; done) | (simp [*]; done)), H', ⟨by have := HK1.out; omega⟩, ⟨by repeat (first | (with_reducible first | exact HB.out | apply below_alloc | apply pw_below_drewN | apply below_drew1 | refine below_set ?_ GE108.out) | exact HB.out)⟩⟩
        ·
         replace c12 := Bool.eq_false_iff.mpr c12
         subst c12
         have H1 : (some 41) = some r := by rw [if_neg (show ¬ (false = true) by decide)] at H; exact H
         clear H
         have H := H1
         clear H1
         obtain rfl := Option.some.inj H
         have p107 : 0 ≤ (x7_1 : Int) := of_decide_eq_true (by first | (with_reducible assumption) | assumption)
         have q107 : x7_1 < (l0.length : Int) := of_decide_eq_true (by first | (with_reducible assumption) | assumption)
         obtain ⟨ad107, e107, hx107_0, hx107_1, hx107_2⟩ := at_T33 HR0.out x7_1 p107 q107
         cases e107
         replace hx107_0 := (HB.out.cell (World.block_lt_of_cell? w _ hx107_0)).trans hx107_0
         replace hx107_1 := (HB.out.cell (World.block_lt_of_cell? w _ hx107_1)).trans hx107_1
         replace hx107_2 := (HB.out.cell (World.block_lt_of_cell? w _ hx107_2)).trans hx107_2
         replace p107 := eq_true p107
         replace q107 := eq_true q107
         go_wp2_with (first | ((with_reducible refine gate_dst (N := 4) rfl ?_); refine box_event ?hg (N := 4) ?hd (cs := #[.int .i64 0, .string (⟨#[]⟩ : ByteArray), .string (⟨#[]⟩ : ByteArray)]) (t := 33) ?hr ?_; (case hd => rfl); (case hg => rfl); (case hr => first | (go_simp; done) | (go_simp; rfl)); intro gb108 hg w16 hbox hb; have n0_ := Aside0.mk (below_step (by repeat (first | (with_reducible first | exact HB.out | apply below_alloc | apply pw_below_drewN | apply below_drew1) | exact HB.out)) hb); have n1_ := Aside0.mk (hbox); have n2_ := Aside0.mk ((by rw [hg]; exact (below_size (by repeat (first | (with_reducible first | exact HB.out | apply below_alloc | apply pw_below_drewN | apply below_drew1) | exact HB.out))) : w.heap.size ≤ gb108)); have n3_ := Aside0.mk ((by rw [hg]; exact (below_size (by repeat (first | (with_reducible first | exact HB.out | apply below_alloc | apply pw_below_drewN | apply below_drew1) | exact HB.out))) : w.heap.size ≤ gb108)); clear HB; have HB := n0_; have BK108 := n1_; have GW108 := n2_; have GE108 := n3_; clear n0_ n1_ n2_ n3_; clear hb hbox hg; have hcz17_0 : w16.cell? ⟨gb108, 0, none⟩ = some (.int .i64 0) := (blk_cell BK108.out 0).trans rfl; have hcz17_1 : w16.cell? ⟨gb108, 1, none⟩ = some (.string (⟨#[]⟩ : ByteArray)) := (blk_cell BK108.out 1).trans rfl; have hcz17_2 : w16.cell? ⟨gb108, 2, none⟩ = some (.string (⟨#[]⟩ : ByteArray)) := (blk_cell BK108.out 2).trans rfl; have hfz17_0 := blk_frozen BK108.out 0; have hfz17_1 := blk_frozen BK108.out 1; have hfz17_2 := blk_frozen BK108.out 2) | ((with_reducible refine gate_callee (f := 92) rfl ?_); refine goesL_ (some 14) rfl rfl Tryz.func92 (by kernel_rfl) rfl #[.int .i64 ((rd_T33 l0 x7_1).f0)] rfl (by (try simp only [List.map_toArray, List.map_cons, List.map_nil]); first | done | rfl | (simp only [List.length_drop, List.length_take]; rfl)) ?_; (with_reducible refine (attr_sign.calls ((rd_T33 l0 x7_1).f0) t109 _ A5.out).mono ?_); rintro e w' ⟨rfl, ⟨nd, rfl⟩⟩; refine ⟨_, rfl, ?_⟩) | ((with_reducible refine gate_callee (f := 52) rfl ?_); refine goesL_ (some 19) rfl rfl Tryz.func52 (by kernel_rfl) rfl #[.string ((rd_T33 l0 x7_1).f1)] rfl (by (try simp only [List.map_toArray, List.map_cons, List.map_nil]); first | done | rfl | (simp only [List.length_drop, List.length_take]; rfl)) ?_; (with_reducible refine (attr_Key.calls k1 ((rd_T33 l0 x7_1).f1) true _ A9.out).mono ?_); rintro e w' ⟨rfl, ⟨nd, rfl⟩⟩; refine ⟨_, rfl, ?_⟩) | ((with_reducible refine gate_callee (f := 93) rfl ?_); refine goesL_ (some 24) rfl rfl Tryz.func93 (by kernel_rfl) rfl #[.string ((rd_T33 l0 x7_1).f2)] rfl (by (try simp only [List.map_toArray, List.map_cons, List.map_nil]); first | done | rfl | (simp only [List.length_drop, List.length_take]; rfl)) ?_; (with_reducible refine (attr_plain.calls ((rd_T33 l0 x7_1).f2) false _ A11.out).mono ?_); rintro e w18 ⟨rfl, hb⟩; refine ⟨_, rfl, ?_⟩; have n0_ := Aside0.mk (blk_below (g := gb108) (o := .cells #[.int .i64 ((rd_T33 l0 x7_1).f0), .string ((rd_T33 l0 x7_1).f1), .string ((rd_T33 l0 x7_1).f2)] 33 (0, 0)) (by (with_reducible repeat (first | refine blk_drewN ?_ _ | refine blk_drew ?_ | refine blk_alloc ?_ _)); refine blk_put (cs := #[.int .i64 ((rd_T33 l0 x7_1).f0), .string ((rd_T33 l0 x7_1).f1), .string (⟨#[]⟩ : ByteArray)]) ?_ 2 _ rfl; (with_reducible repeat (first | refine blk_drewN ?_ _ | refine blk_drew ?_ | refine blk_alloc ?_ _)); refine blk_put (cs := #[.int .i64 ((rd_T33 l0 x7_1).f0), .string (⟨#[]⟩ : ByteArray), .string (⟨#[]⟩ : ByteArray)]) ?_ 1 _ rfl; (with_reducible repeat (first | refine blk_drewN ?_ _ | refine blk_drew ?_ | refine blk_alloc ?_ _)); refine blk_put (cs := #[.int .i64 0, .string (⟨#[]⟩ : ByteArray), .string (⟨#[]⟩ : ByteArray)]) ?_ 0 _ rfl; (with_reducible repeat (first | refine blk_drewN ?_ _ | refine blk_drew ?_ | refine blk_alloc ?_ _)); exact BK108.out) hb); have n1_ := Aside0.mk (below_step (by repeat (first | (with_reducible first | exact HB.out | apply below_alloc | apply pw_below_drewN | apply below_drew1 | refine below_set ?_ GE108.out) | exact HB.out)) hb); clear BK108; clear HB; have BK108 := n0_; have HB := n1_; clear n0_ n1_; (try clear hb); (try clear hb2); (try clear hk); (try clear hi)))
         go_ret
         exact ⟨by first | rfl | (simp [errW_none, errW_some] <;> rfl) | (simp [*, errW_none, errW_some] <;> rfl), by repeat (first | (with_reducible first | exact HB.out | apply below_alloc | apply pw_below_drewN | apply below_drew1 | refine below_set ?_ GE108.out) | exact HB.out)⟩
       ·
        replace c10 := Bool.eq_false_iff.mpr c10
        subst c10
        have H1 : (some 40) = some r := by rw [if_neg (show ¬ (false = true) by decide)] at H; exact H
        clear H
        have H := H1
        clear H1
        obtain rfl := Option.some.inj H
        have p107 : 0 ≤ (x7_1 : Int) := of_decide_eq_true (by first | (with_reducible assumption) | assumption)
        have q107 : x7_1 < (l0.length : Int) := of_decide_eq_true (by first | (with_reducible assumption) | assumption)
        obtain ⟨ad107, e107, hx107_0, hx107_1, hx107_2⟩ := at_T33 HR0.out x7_1 p107 q107
        cases e107
        replace hx107_0 := (HB.out.cell (World.block_lt_of_cell? w _ hx107_0)).trans hx107_0
        replace hx107_1 := (HB.out.cell (World.block_lt_of_cell? w _ hx107_1)).trans hx107_1
        replace hx107_2 := (HB.out.cell (World.block_lt_of_cell? w _ hx107_2)).trans hx107_2
        replace p107 := eq_true p107
        replace q107 := eq_true q107
        go_wp2_with (first | ((with_reducible refine gate_dst (N := 4) rfl ?_); refine box_event ?hg (N := 4) ?hd (cs := #[.int .i64 0, .string (⟨#[]⟩ : ByteArray), .string (⟨#[]⟩ : ByteArray)]) (t := 33) ?hr ?_; (case hd => rfl); (case hg => rfl); (case hr => first | (go_simp; done) | (go_simp; rfl)); intro gb108 hg w19 hbox hb; have n0_ := Aside0.mk (below_step (by repeat (first | (with_reducible first | exact HB.out | apply below_alloc | apply pw_below_drewN | apply below_drew1) | exact HB.out)) hb); have n1_ := Aside0.mk (hbox); have n2_ := Aside0.mk ((by rw [hg]; exact (below_size (by repeat (first | (with_reducible first | exact HB.out | apply below_alloc | apply pw_below_drewN | apply below_drew1) | exact HB.out))) : w.heap.size ≤ gb108)); have n3_ := Aside0.mk ((by rw [hg]; exact (below_size (by repeat (first | (with_reducible first | exact HB.out | apply below_alloc | apply pw_below_drewN | apply below_drew1) | exact HB.out))) : w.heap.size ≤ gb108)); clear HB; have HB := n0_; have BK108 := n1_; have GW108 := n2_; have GE108 := n3_; clear n0_ n1_ n2_ n3_; clear hb hbox hg; have hcz20_0 : w19.cell? ⟨gb108, 0, none⟩ = some (.int .i64 0) := (blk_cell BK108.out 0).trans rfl; have hcz20_1 : w19.cell? ⟨gb108, 1, none⟩ = some (.string (⟨#[]⟩ : ByteArray)) := (blk_cell BK108.out 1).trans rfl; have hcz20_2 : w19.cell? ⟨gb108, 2, none⟩ = some (.string (⟨#[]⟩ : ByteArray)) := (blk_cell BK108.out 2).trans rfl; have hfz20_0 := blk_frozen BK108.out 0; have hfz20_1 := blk_frozen BK108.out 1; have hfz20_2 := blk_frozen BK108.out 2) | ((with_reducible refine gate_callee (f := 92) rfl ?_); refine goesL_ (some 14) rfl rfl Tryz.func92 (by kernel_rfl) rfl #[.int .i64 ((rd_T33 l0 x7_1).f0)] rfl (by (try simp only [List.map_toArray, List.map_cons, List.map_nil]); first | done | rfl | (simp only [List.length_drop, List.length_take]; rfl)) ?_; (with_reducible refine (attr_sign.calls ((rd_T33 l0 x7_1).f0) t109 _ A5.out).mono ?_); rintro e w' ⟨rfl, ⟨nd, rfl⟩⟩; refine ⟨_, rfl, ?_⟩) | ((with_reducible refine gate_callee (f := 52) rfl ?_); refine goesL_ (some 19) rfl rfl Tryz.func52 (by kernel_rfl) rfl #[.string ((rd_T33 l0 x7_1).f1)] rfl (by (try simp only [List.map_toArray, List.map_cons, List.map_nil]); first | done | rfl | (simp only [List.length_drop, List.length_take]; rfl)) ?_; (with_reducible refine (attr_Key.calls k1 ((rd_T33 l0 x7_1).f1) false _ A9.out).mono ?_); rintro e w' ⟨rfl, ⟨nd, rfl⟩⟩; refine ⟨_, rfl, ?_⟩))
        go_ret
        exact ⟨by first | rfl | (simp [errW_none, errW_some] <;> rfl) | (simp [*, errW_none, errW_some] <;> rfl), by repeat (first | (with_reducible first | exact HB.out | apply below_alloc | apply pw_below_drewN | apply below_drew1 | refine below_set ?_ GE108.out) | exact HB.out)⟩
     ·
      rw [if_neg c4] at H
      exact absurd H (by simp)
    ·
     rw [if_neg c3] at H
     exact absurd H (by simp)
   ·
    rw [if_neg c2] at H
    have c2b0 : decide (x7_1 < (l0.length : Int)) = false := decide_eq_false c2
    clear c2
    obtain rfl := Option.some.inj H
    go_wp2
    go_ret
    exact ⟨by first | rfl | (simp [errW_none, errW_some] <;> rfl) | (simp [*, errW_none, errW_some] <;> rfl), by repeat (first | (with_reducible first | exact HB.out | apply below_alloc | apply pw_below_drewN | apply below_drew1) | exact HB.out)⟩
def attr_RightMatch.f (k : Nat) (l0 : List (S33)) : Option (Int) := if (l0.length : Int) > 8 then (some 7) else ((attr_wrong.f k l0).bind fun t112 => (some t112))
set_option maxHeartbeats 8000000 in
set_option maxRecDepth 100000 in
theorem attr_RightMatch.calls (k : Nat) (A0 : Option Addr) (c0 : Nat) (l0 : List (S33)) (r : Int) (w : World) (hr0 : Kd.C k33 w A0 l0.length l0) (hc0 : l0.length ≤ c0) (h : attr_RightMatch.f k l0 = some r) (he_ : EnvW w := by repeat (first | with_reducible assumption | with_reducible exact env_of (by with_reducible assumption) (by with_reducible assumption) | with_reducible exact env_out (by with_reducible assumption) | with_reducible apply env_alloc | with_reducible apply env_drewN | with_reducible apply env_drew | with_reducible refine env_set ?_ (by with_reducible assumption) (by with_reducible assumption))) :
  Calls Tryz.prog 49 #[.slice A0 l0.length c0] w fun e w' => e = .returned (.int .i64 r) ∧ Below w.heap.size w w' := by
 have HE_ := Aside0.mk he_
 clear he_
 have HR0 := Aside0.mk hr0
 have HC0 := Aside0.mk hc0
 clear hr0 hc0
 have HB := Aside0.mk (Below.refl w.heap.size w)
 have H : (if (l0.length : Int) > 8 then (some 7) else ((attr_wrong.f k l0).bind fun t112 => (some t112))) = some r := h
 clear h
 by_cases c2 : (l0.length : Int) > 8
 ·
  rw [if_pos c2] at H
  have c2b0 : decide (8 < (l0.length : Int)) = true := decide_eq_true c2
  have c2b1 : decide (8 < l0.length) = true := decide_eq_true (by omega)
  clear c2
  obtain rfl := Option.some.inj H
  go_enter Tryz.func49, Tryz.ntmps49
  go_wp2
  go_ret
  exact ⟨by first | rfl | (simp [errW_none, errW_some] <;> rfl) | (simp [*, errW_none, errW_some] <;> rfl), by repeat (first | (with_reducible first | exact HB.out | apply below_alloc | apply pw_below_drewN | apply below_drew1) | exact HB.out)⟩
 ·
  rw [if_neg c2] at H
  have c2b0 : decide (8 < (l0.length : Int)) = false := decide_eq_false c2
  have c2b1 : decide (8 < l0.length) = false := decide_eq_false (by omega)
  clear c2
  replace H := Option.bind_eq_some_iff.mp H
  obtain ⟨t112, A30, H⟩ := H
  replace H : (some t112) = some r := H
  have A3 := Aside0.mk A30
  clear A30
  obtain rfl := Option.some.inj H
  go_enter Tryz.func49, Tryz.ntmps49
  go_wp2_with (first | ((with_reducible refine gate_callee (f := 63) rfl ?_); refine goesL_ (some 7) rfl rfl Tryz.func63 (by kernel_rfl) rfl #[.slice A0 l0.length c0] rfl (by (try simp only [List.map_toArray, List.map_cons, List.map_nil]); first | done | rfl | (simp only [List.length_drop, List.length_take]; rfl)) ?_; (with_reducible refine (attr_wrong.calls k _ _ l0 t112 _ ?side1 ?side2 A3.out).mono ?_); (case side1 => repeat (first | exact HR0.out | (with_reducible refine Kd.C_alloc ?_ _) | (with_reducible refine Kd.C_drewN ?_ _) | (with_reducible refine Kd.C_drew ?_))); (case side2 => exact HC0.out); rintro e w4 ⟨rfl, hb⟩; refine ⟨_, rfl, ?_⟩; have n0_ := Aside0.mk (below_step (by repeat (first | (with_reducible first | exact HB.out | apply below_alloc | apply pw_below_drewN | apply below_drew1) | exact HB.out)) hb); clear HB; have HB := n0_; clear n0_; (try clear hb); (try clear hb2); (try clear hk); (try clear hi)))
  go_ret
  exact ⟨by first | rfl | (simp [errW_none, errW_some] <;> rfl) | (simp [*, errW_none, errW_some] <;> rfl), by repeat (first | (with_reducible first | exact HB.out | apply below_alloc | apply pw_below_drewN | apply below_drew1) | exact HB.out)⟩
def policy_Right_1.f (k : Nat) (a0 : ByteArray) : Option (Bool) := (attr_Key.f k a0).bind fun t113 => (some (!t113))
set_option maxHeartbeats 8000000 in
set_option maxRecDepth 100000 in
theorem policy_Right_1.calls (k : Nat) (a0 : ByteArray) (r : Bool) (w : World) (h : policy_Right_1.f k a0 = some r) :
  Calls Tryz.prog 51 #[.string a0] w fun e w' => e = .returned (.bool r) ∧ Drawn0 w w' := by
 have H : ((attr_Key.f k a0).bind fun t113 => (some (!t113))) = some r := h
 clear h
 replace H := Option.bind_eq_some_iff.mp H
 obtain ⟨t113, A20, H⟩ := H
 replace H : (some (!t113)) = some r := H
 have A2 := Aside0.mk A20
 clear A20
 obtain rfl := Option.some.inj H
 go_enter Tryz.func51, Tryz.ntmps51
 go_wp2_with (first | ((with_reducible refine gate_callee (f := 52) rfl ?_); refine goesL_ (some 4) rfl rfl Tryz.func52 (by kernel_rfl) rfl #[.string a0] rfl (by (try simp only [List.map_toArray, List.map_cons, List.map_nil]); first | done | rfl | (simp only [List.length_drop, List.length_take]; rfl)) ?_; (with_reducible refine (attr_Key.calls k a0 t113 _ A2.out).mono ?_); rintro e w' ⟨rfl, ⟨nd, rfl⟩⟩; refine ⟨_, rfl, ?_⟩))
 go_ret
 exact ⟨by first | rfl | (simp; done) | (simp [*]; done), by repeat (first | exact Drawn0.refl _ | apply Drawn0.step)⟩
def slices_IndexFunc_string_string.l0 : Nat → List ByteArray → Int → Int → Option (Int)
  | 0, _, _, _ => none
  | k + 1, x0, x7, x8 => if x8 < x7 then (if 0 ≤ x8 then (if x8 < (x0.length : Int) then ((policy_Right_1.f k (rdOf ByteArray.empty x0 x8)).bind fun t115 => (if t115 = true then (some x8) else (slices_IndexFunc_string_string.l0 k x0 x7 (wrap64 (x8 + 1))))) else (none)) else (none)) else (some (-1))
def slices_IndexFunc_string_string.f (k : Nat) (l0 : List ByteArray)  : Option (Int) := slices_IndexFunc_string_string.l0 k l0 (l0.length : Int) 0
set_option maxHeartbeats 8000000 in
set_option maxRecDepth 100000 in
theorem slices_IndexFunc_string_string.calls (k : Nat) (A0 : Option Addr) (c0 : Nat) (l0 : List ByteArray)  (r : Int) (w : World) (hr0 : Kd.C Kd.string w A0 l0.length l0) (hc0 : l0.length ≤ c0) (h : slices_IndexFunc_string_string.f k l0 = some r) :
  Calls Tryz.prog 84 #[.slice A0 l0.length c0, .func (.func 51) #[] #[]] w fun e w' => e = .returned (.int .i64 r) ∧ Drawn0 w w' := by
 have HR0 := Aside0.mk hr0
 have HC0 := Aside0.mk hc0
 clear hr0 hc0
 have H : (slices_IndexFunc_string_string.l0 k l0 (l0.length : Int) 0) = some r := h
 clear h
 have H' := Aside0.mk H
 clear H
 go_enter Tryz.func84, Tryz.ntmps84
 go_wp2
 go_loopg [8] k (fun kq v8 w' => ∃ (x8_1 : Int), v8 = .int .i64 x8_1 ∧ Aside0 (slices_IndexFunc_string_string.l0 kq l0 (l0.length : Int) x8_1 = some r) ∧ Aside0 (kq ≤ k) ∧ Drawn0 w w')
 case atStart => exact ⟨(0), (by first | rfl | (simp; done) | (simp [*]; done)), H', ⟨Nat.le_refl _⟩, by repeat (first | exact Drawn0.refl _ | apply Drawn0.step)⟩
 case round =>
  clear H'
  try clear p2
  obtain ⟨x8_1, rfl, HA, HK1, ⟨m1, rfl⟩⟩ := hrel
  cases gk with
  | zero => exact absurd HA.out (by simp [slices_IndexFunc_string_string.l0])
  | succ k1 =>
   have H := HA.out
   clear HA
   simp only [slices_IndexFunc_string_string.l0] at H
   by_cases c3 : x8_1 < (l0.length : Int)
   ·
    rw [if_pos c3] at H
    have c3b0 : decide (x8_1 < (l0.length : Int)) = true := decide_eq_true c3
    clear c3
    by_cases c4 : 0 ≤ x8_1
    ·
     rw [if_pos c4] at H
     have c4b0 : decide (0 ≤ x8_1) = true := decide_eq_true c4
     clear c4
     by_cases c5 : x8_1 < (l0.length : Int)
     ·
      rw [if_pos c5] at H
      have c5b0 : decide (x8_1 < (l0.length : Int)) = true := decide_eq_true c5
      clear c5
      replace H := Option.bind_eq_some_iff.mp H
      obtain ⟨t115, A60, H⟩ := H
      replace H : (if t115 = true then (some x8_1) else (slices_IndexFunc_string_string.l0 k1 l0 (l0.length : Int) (wrap64 (x8_1 + 1)))) = some r := H
      have A6 := Aside0.mk A60
      clear A60
      by_cases c7 : t115 = true
      ·
       subst c7
       have H1 : (some x8_1) = some r := by rw [if_pos rfl] at H; exact H
       clear H
       have H := H1
       clear H1
       obtain rfl := Option.some.inj H
       have p114 : 0 ≤ (x8_1 : Int) := of_decide_eq_true (by first | (with_reducible assumption) | assumption)
       have q114 : x8_1 < (l0.length : Int) := of_decide_eq_true (by first | (with_reducible assumption) | assumption)
       obtain ⟨ad114, e114, hx114_0⟩ := Kd.at_string HR0.out x8_1 p114 q114
       cases e114
       replace p114 := eq_true p114
       replace q114 := eq_true q114
       go_wp2_with (first | (go_at_call 51; (with_reducible refine (policy_Right_1.calls k1 (rdOf ByteArray.empty l0 x8_1) true _ A6.out).mono ?_); rintro e w' ⟨rfl, ⟨nd, rfl⟩⟩))
       go_ret
       exact ⟨by first | rfl | (simp; done) | (simp [*]; done), by repeat (first | exact Drawn0.refl _ | apply Drawn0.step)⟩
      ·
       replace c7 := Bool.eq_false_iff.mpr c7
       subst c7
       have H1 : (slices_IndexFunc_string_string.l0 k1 l0 (l0.length : Int) (wrap64 (x8_1 + 1))) = some r := by rw [if_neg (show ¬ (false = true) by decide)] at H; exact H
       clear H
       have H := H1
       clear H1
       have H' := Aside0.mk H
       clear H
       have p114 : 0 ≤ (x8_1 : Int) := of_decide_eq_true (by first | (with_reducible assumption) | assumption)
       have q114 : x8_1 < (l0.length : Int) := of_decide_eq_true (by first | (with_reducible assumption) | assumption)
       obtain ⟨ad114, e114, hx114_0⟩ := Kd.at_string HR0.out x8_1 p114 q114
       cases e114
       replace p114 := eq_true p114
       replace q114 := eq_true q114
       go_wp2_with (first | (go_at_call 51; (with_reducible refine (policy_Right_1.calls k1 (rdOf ByteArray.empty l0 x8_1) false _ A6.out).mono ?_); rintro e w' ⟨rfl, ⟨nd, rfl⟩⟩))
       go_roundg k1
       case measure => have := HK1.out; omega
       case rel => exact ⟨(wrap64 (x8_1 + 1)), (by first | rfl | (simp; done) | (simp [*]; done)), H', ⟨by have := HK1.out; omega⟩, by repeat (first | exact Drawn0.refl _ | apply Drawn0.step)⟩
     ·
      rw [if_neg c5] at H
      exact absurd H (by simp)
    ·
     rw [if_neg c4] at H
     exact absurd H (by simp)
   ·
    rw [if_neg c3] at H
    have c3b0 : decide (x8_1 < (l0.length : Int)) = false := decide_eq_false c3
    clear c3
    obtain rfl := Option.some.inj H
    go_wp2
    go_ret
    exact ⟨by first | rfl | (simp; done) | (simp [*]; done), by repeat (first | exact Drawn0.refl _ | apply Drawn0.step)⟩
def slices_ContainsFunc_string_string.f (k : Nat) (l0 : List ByteArray)  : Option (Bool) := (slices_IndexFunc_string_string.f k l0).bind fun t116 => (some (decide (t116 ≥ 0)))
set_option maxHeartbeats 8000000 in
set_option maxRecDepth 100000 in
theorem slices_ContainsFunc_string_string.calls (k : Nat) (A0 : Option Addr) (c0 : Nat) (l0 : List ByteArray)  (r : Bool) (w : World) (hr0 : Kd.C Kd.string w A0 l0.length l0) (hc0 : l0.length ≤ c0) (h : slices_ContainsFunc_string_string.f k l0 = some r) :
  Calls Tryz.prog 50 #[.slice A0 l0.length c0, .func (.func 51) #[] #[]] w fun e w' => e = .returned (.bool r) ∧ Drawn0 w w' := by
 have HR0 := Aside0.mk hr0
 have HC0 := Aside0.mk hc0
 clear hr0 hc0
 have H : ((slices_IndexFunc_string_string.f k l0).bind fun t116 => (some (decide (t116 ≥ 0)))) = some r := h
 clear h
 replace H := Option.bind_eq_some_iff.mp H
 obtain ⟨t116, A30, H⟩ := H
 replace H : (some (decide (t116 ≥ 0))) = some r := H
 have A3 := Aside0.mk A30
 clear A30
 obtain rfl := Option.some.inj H
 go_enter Tryz.func50, Tryz.ntmps50
 go_wp2_with (first | ((with_reducible refine gate_callee (f := 84) rfl ?_); refine goesL_ (some 7) rfl rfl Tryz.func84 (by kernel_rfl) rfl #[.slice A0 l0.length c0, .func (.func 51) #[] #[]] rfl (by (try simp only [List.map_toArray, List.map_cons, List.map_nil]); first | done | rfl | (simp only [List.length_drop, List.length_take]; rfl)) ?_; (with_reducible refine (slices_IndexFunc_string_string.calls k _ _ l0  t116 _ ?side1 ?side2 A3.out).mono ?_); (case side1 => repeat (first | exact HR0.out | (with_reducible refine Kd.C_alloc ?_ _) | (with_reducible refine Kd.C_drewN ?_ _) | (with_reducible refine Kd.C_drew ?_))); (case side2 => exact HC0.out); rintro e w' ⟨rfl, ⟨nd, rfl⟩⟩; refine ⟨_, rfl, ?_⟩))
 go_ret
 exact ⟨by first | rfl | (simp; done) | (simp [*]; done), by repeat (first | exact Drawn0.refl _ | apply Drawn0.step)⟩
end Go.Proofs.YtkedidjjhhjdbaaGreatDoor.Pr
end
section
set_option linter.unusedVariables false
set_option linter.unusedSimpArgs false
namespace Go.Proofs.YtkedidjjhhjdbaaGreatDoor.Pr
open Go.RowKit Go.Proofs.YtkedidjjhhjdbaaGreatDoorW.PrintWords Go.Proofs.YtkedidjjhhjdbaaGreatDoorW.PrintLast Go.Proofs.YtkedidjjhhjdbaaGreatDoorW.PrintMore
theorem wrap_small {n : Int} (h0 : -9223372036854775808 ≤ n) (h1 : n < 9223372036854775808) : wrap64 n = n := by unfold wrap64; omega
def inr (c lo hi : Int) : Bool := decide (lo ≤ c) && decide (c ≤ hi)
theorem m1 {p : Prop} [Decidable p] {x : Bool} (hx : x = decide (¬ p)) (v : Nat → Bool) (n : Nat) : (x && v n) = match (if p then none else some n : Option Nat) with | none => false | some k => v k := by
 subst hx
 by_cases h : p <;> simp [h]
end Go.Proofs.YtkedidjjhhjdbaaGreatDoor.Pr
end
section
set_option linter.unusedVariables false
set_option linter.unusedSimpArgs false
namespace Go.Proofs.YtkedidjjhhjdbaaGreatDoor.Pr
open Go.RowKit Go.Proofs.YtkedidjjhhjdbaaGreatDoorW.PrintWords Go.Proofs.YtkedidjjhhjdbaaGreatDoorW.PrintLast Go.Proofs.YtkedidjjhhjdbaaGreatDoorW.PrintMore
def Ev {α : Type} (f : Nat → Option α) (v : α) : Prop := ∃ K, ∀ k, K ≤ k → f k = some v
theorem Ev.bind {α β : Type} {f : Nat → Option α} {g : Nat → α → Option β} {v : α} {r : β} (h : Ev f v) (h' : Ev (fun k => g k v) r) : Ev (fun k => (f k).bind (g k)) r := by
 obtain ⟨K, hK⟩ := h
 obtain ⟨L, hL⟩ := h'
 exact ⟨K + L, fun k hk => by show (f k).bind (g k) = _; rw [hK k (by omega), Option.bind_some]; exact hL k (by omega)⟩
theorem Ev.const {α : Type} {v : α} {f : Option α} (h : f = some v) : Ev (fun _ => f) v := ⟨0, fun _ _ => h⟩
theorem Ev.succ {α : Type} {f g : Nat → Option α} {v : α} (h : Ev g v) (e : ∀ k, f (k + 1) = g k) : Ev f v := by
 obtain ⟨K, hK⟩ := h
 refine ⟨K + 1, fun k hk => ?_⟩
 obtain ⟨k, rfl⟩ : ∃ j, k = j + 1 := ⟨k - 1, by omega⟩
 rw [e]; exact hK k (by omega)
theorem Ev.of_eq {α : Type} {f g : Nat → Option α} {v : α} (h : Ev g v) (e : ∀ k, f k = g k) : Ev f v := by
 obtain ⟨K, hK⟩ := h
 exact ⟨K, fun k hk => (e k).trans (hK k hk)⟩
end Go.Proofs.YtkedidjjhhjdbaaGreatDoor.Pr
end
section
namespace Go.Proofs.YtkedidjjhhjdbaaGreatDoor.Pr
open Go.RowKit Go.Proofs.YtkedidjjhhjdbaaGreatDoorW.PrintWords Go.Proofs.YtkedidjjhhjdbaaGreatDoorW.PrintLast Go.Proofs.YtkedidjjhhjdbaaGreatDoorW.PrintMore
attribute [local go_sem] max2_int min2_int max_two min_two max_three min_three max_four min_four strGtr strLeq strGeq
set_option linter.unusedVariables false
set_option linter.unusedSimpArgs false
def policy_Kind.f (a0 : Int) : Option (ByteArray) := if a0 = 0 then (some (⟨#[97, 110, 121]⟩ : ByteArray)) else (if a0 = 1 then (some (⟨#[109, 101, 116, 114, 105, 99, 115]⟩ : ByteArray)) else (if a0 = 2 then (some (⟨#[108, 111, 103, 115]⟩ : ByteArray)) else (if a0 = 3 then (some (⟨#[116, 114, 97, 99, 101, 115]⟩ : ByteArray)) else (some (⟨#[]⟩ : ByteArray)))))
set_option maxHeartbeats 8000000 in
set_option maxRecDepth 100000 in
theorem policy_Kind.calls (a0 : Int) (r : ByteArray) (w : World) (h : policy_Kind.f a0 = some r) :
  Calls Tryz.prog 19 #[.int .i64 a0] w fun e w' => e = .returned (.string r) ∧ Drawn0 w w' := by
 have H : (if a0 = 0 then (some (⟨#[97, 110, 121]⟩ : ByteArray)) else (if a0 = 1 then (some (⟨#[109, 101, 116, 114, 105, 99, 115]⟩ : ByteArray)) else (if a0 = 2 then (some (⟨#[108, 111, 103, 115]⟩ : ByteArray)) else (if a0 = 3 then (some (⟨#[116, 114, 97, 99, 101, 115]⟩ : ByteArray)) else (some (⟨#[]⟩ : ByteArray)))))) = some r := h
 clear h
 by_cases c2 : a0 = 0
 ·
  rw [if_pos c2] at H
  have c2b0 : (a0 == 0) = true := beq_iff_eq.mpr c2
  have c2b1 : (a0 != 0) = false := bne_eq_false_iff_eq.mpr c2
  clear c2
  obtain rfl := Option.some.inj H
  go_enter Tryz.func19, Tryz.ntmps19
  go_wp2
  go_ret
  exact ⟨by first | rfl | (simp; done) | (simp [*]; done), by repeat (first | exact Drawn0.refl _ | apply Drawn0.step)⟩
 ·
  rw [if_neg c2] at H
  have c2b0 : (a0 == 0) = false := beq_eq_false_iff_ne.mpr c2
  have c2b1 : (a0 != 0) = true := bne_iff_ne.mpr c2
  by_cases c3 : a0 = 1
  ·
   rw [if_pos c3] at H
   have c3b0 : (a0 == 1) = true := beq_iff_eq.mpr c3
   have c3b1 : (a0 != 1) = false := bne_eq_false_iff_eq.mpr c3
   clear c3
   obtain rfl := Option.some.inj H
   go_enter Tryz.func19, Tryz.ntmps19
   go_wp2
   go_ret
   exact ⟨by first | rfl | (simp; done) | (simp [*]; done), by repeat (first | exact Drawn0.refl _ | apply Drawn0.step)⟩
  ·
   rw [if_neg c3] at H
   have c3b0 : (a0 == 1) = false := beq_eq_false_iff_ne.mpr c3
   have c3b1 : (a0 != 1) = true := bne_iff_ne.mpr c3
   by_cases c4 : a0 = 2
   ·
    rw [if_pos c4] at H
    have c4b0 : (a0 == 2) = true := beq_iff_eq.mpr c4
    have c4b1 : (a0 != 2) = false := bne_eq_false_iff_eq.mpr c4
    clear c4
    obtain rfl := Option.some.inj H
    go_enter Tryz.func19, Tryz.ntmps19
    go_wp2
    go_ret
    exact ⟨by first | rfl | (simp; done) | (simp [*]; done), by repeat (first | exact Drawn0.refl _ | apply Drawn0.step)⟩
   ·
    rw [if_neg c4] at H
    have c4b0 : (a0 == 2) = false := beq_eq_false_iff_ne.mpr c4
    have c4b1 : (a0 != 2) = true := bne_iff_ne.mpr c4
    by_cases c5 : a0 = 3
    ·
     rw [if_pos c5] at H
     have c5b0 : (a0 == 3) = true := beq_iff_eq.mpr c5
     have c5b1 : (a0 != 3) = false := bne_eq_false_iff_eq.mpr c5
     clear c5
     obtain rfl := Option.some.inj H
     go_enter Tryz.func19, Tryz.ntmps19
     go_wp2
     go_ret
     exact ⟨by first | rfl | (simp; done) | (simp [*]; done), by repeat (first | exact Drawn0.refl _ | apply Drawn0.step)⟩
    ·
     rw [if_neg c5] at H
     have c5b0 : (a0 == 3) = false := beq_eq_false_iff_ne.mpr c5
     have c5b1 : (a0 != 3) = true := bne_iff_ne.mpr c5
     obtain rfl := Option.some.inj H
     go_enter Tryz.func19, Tryz.ntmps19
     go_wp2
     go_ret
     exact ⟨by first | rfl | (simp; done) | (simp [*]; done), by repeat (first | exact Drawn0.refl _ | apply Drawn0.step)⟩
end Go.Proofs.YtkedidjjhhjdbaaGreatDoor.Pr
end
section
set_option linter.unusedVariables false
set_option linter.unusedSimpArgs false
namespace Go.Proofs.YtkedidjjhhjdbaaGreatDoor.Pr
open Go.RowKit Go.Proofs.YtkedidjjhhjdbaaGreatDoorW.PrintWords Go.Proofs.YtkedidjjhhjdbaaGreatDoorW.PrintLast Go.Proofs.YtkedidjjhhjdbaaGreatDoorW.PrintMore
def keysOf (l : List ByteArray) : List Lit := l.map fun s => .string s.data.toList
def distinctN (l : List ByteArray) : Nat := ((keysOf l).foldl Go.Maps.addKey []).length
def metSet {H : Type} (l : List ByteArray) : DataW H := Go.Maps.setOf (.lit (.bool true)) (keysOf l)
theorem metSet_snoc {H : Type} (l : List ByteArray) (k : Nat) (x : ByteArray) (hx : l[k]? = some x) : metSet (H := H) (l.take (k + 1)) = (metSet (l.take k)).put (.string x.data.toList) (.lit (.bool true)) := by
 unfold metSet keysOf
 rw [List.take_add_one, hx]
 simp only [Option.toList_some, List.map_append, List.map_cons, List.map_nil]
 rw [Go.Maps.setOf_snoc]
theorem metSet_nil {H : Type} (l : List ByteArray) : metSet (H := H) (l.take 0) = .map [] := by simp [metSet, keysOf, Go.Maps.setOf]
theorem metSet_size {H : Type} (l : List ByteArray) : Go.Maps.size (metSet (H := H) l) = distinctN l := by
 unfold metSet distinctN
 refine Go.Maps.size_setOf _ _ ?_
 intro x hx
 obtain ⟨s, _, rfl⟩ := List.mem_map.1 hx
 simp [WideAt.IsKeyLit]
def policy_Right.bad (tn : ByteArray) : Option Bool := if tn.toList = ([42] : List UInt8) then some false else (policy_name.f tn).bind fun b => some (!b)
def policy_Right.rest (k : Nat) (d : Bool) (l3 : List S33) (l4 : List ByteArray) : Option Int :=
  (attr_RightMatch.f k l3).bind fun why =>
    if why = 0 then
      (if d = true ∧ ((l3.length : Int) > 1 ∨ (l4.length : Int) > 0) then some 110
      else if (l4.length : Int) > 16 then some 7
      else (slices_ContainsFunc_string_string.f k l4).bind fun b =>
        if b = true then some 40
        else if l4.all (fun s => decide (s.size ≤ 9223372036854775807)) = true then (if (distinctN l4 : Int) < (l4.length : Int) then some 6 else some 0) else none)
    else some why
def policy_Right.f (k : Nat) (d : Bool) (kd : Int) (tn : ByteArray) (l3 : List S33) (l4 : List ByteArray) : Option Int :=
  (policy_Kind.f kd).bind fun t => if t.toList = ([] : List UInt8) then some 1 else (policy_Right.bad tn).bind fun bad => if bad = true then some 100 else policy_Right.rest k d l3 l4
structure RtI (w : World) (cs : Array Value) (W : World) : Prop where
  bk : W.heap[w.heap.size]? = some (.cells cs 46 (0, 0))
  be : Below w.heap.size w W
theorem RtI.below {w W W' : World} {cs : Array Value} (h : RtI w cs W) (hb : Below W.heap.size W W') : RtI w cs W' := ⟨blk_below h.bk hb, h.be.trans (hb.mono h.be.size)⟩
theorem RtI.drewN {w W : World} {cs : Array Value} (h : RtI w cs W) (n : Nat) : RtI w cs (W.drewN n) := ⟨h.bk, pw_below_drewN h.be n⟩
theorem RtI.cell {w W : World} {cs : Array Value} (h : RtI w cs W) (i : Nat) (v : Value) (hv : cs[i]? = some v) : W.cell? ⟨w.heap.size, i, none⟩ = some v := (blk_cell h.bk i).trans hv
theorem RtI.grown {w W W' : World} {cs : Array Value} {b : Nat} (h : RtI w cs W) (hg : W.grownBy W' (some b)) (hb : w.heap.size < b) : RtI w cs W' :=
 ⟨blk_grown h.bk hg (by simp; omega), h.be.grown hg h.be.size (fun j hj => by cases hj; omega)⟩
theorem law9 : Go.Maps.Keyed Tryz.prog 9 := Go.Maps.string_keyed Tryz.underlying9
set_option maxHeartbeats 8000000 in
set_option maxRecDepth 100000 in
theorem policy_Right.calls (k : Nat) (d : Bool) (kd : Int) (tn : ByteArray) (A3 : Option Addr) (c3 : Nat) (l3 : List S33) (A4 : Option Addr) (c4 : Nat) (l4 : List ByteArray) (r : Int) (w : World)
  (hr3 : Kd.C k33 w A3 l3.length l3) (hc3 : l3.length ≤ c3) (hr4 : Kd.C Kd.string w A4 l4.length l4) (hc4 : l4.length ≤ c4) (h : policy_Right.f k d kd tn l3 l4 = some r)
  (he_ : EnvW w := by repeat (first | with_reducible assumption | with_reducible exact env_of (by with_reducible assumption) (by with_reducible assumption) | with_reducible exact env_out (by with_reducible assumption) | with_reducible apply env_alloc | with_reducible apply env_drewN | with_reducible apply env_drew | with_reducible refine env_set ?_ (by with_reducible assumption) (by with_reducible assumption))) :
  Calls Tryz.prog 22 #[.agg #[.bool d, .int .i64 kd, .string tn, .slice A3 l3.length c3, .slice A4 l4.length c4]] w fun e w' => e = .returned (.int .i64 r) ∧ Below w.heap.size w w' := by
 unfold policy_Right.f at h
 obtain ⟨t, ht, h⟩ := Option.bind_eq_some_iff.mp h
 have hmm := @run_makeMap Tryz.prog
 have HR3 := Aside0.mk hr3
 have HR4 := Aside0.mk hr4
 have HE := Aside0.mk he_
 have HT := Aside0.mk ht
 have HH := Aside0.mk h
 clear hr3 hr4 he_ ht h
 go_enter Tryz.func22, Tryz.ntmps22
 go_wp2_with fail
 have HI : Aside0 (RtI w #[.bool d, .int .i64 kd, .string tn, .slice A3 l3.length c3, .slice A4 l4.length c4] (w.alloc (.cells #[.bool d, .int .i64 kd, .string tn, .slice A3 l3.length c3, .slice A4 l4.length c4] 46))) := ⟨⟨blk_new _ _, (Below.refl _ _).alloc (Nat.le_refl _) _⟩⟩
 generalize w.alloc (.cells #[.bool d, .int .i64 kd, .string tn, .slice A3 l3.length c3, .slice A4 l4.length c4] 46) = W0 at HI ⊢
 refine (policy_Kind.calls kd t _ HT.out).mono ?_
 rintro e w1 ⟨rfl, ⟨nd, rfl⟩⟩
 replace HI := Aside0.mk (HI.out.drewN nd)
 generalize W0.drewN nd = W1 at HI ⊢
 clear HT
 by_cases c1 : t.toList = ([] : List UInt8)
 ·
  have h := HH.out
  rw [if_pos c1] at h
  obtain rfl := Option.some.inj h
  have c1b0 : (t.toList == ([] : List UInt8)) = true := beq_iff_eq.mpr c1
  clear c1 h HH
  go_wp2
  go_ret
  exact ⟨rfl, HI.out.be⟩
 ·
  have h := HH.out
  rw [if_neg c1] at h
  have c1b0 : (t.toList == ([] : List UInt8)) = false := beq_eq_false_iff_ne.mpr c1
  obtain ⟨bad, hb, h⟩ := Option.bind_eq_some_iff.mp h
  have HB := Aside0.mk hb
  have HH := Aside0.mk h
  clear c1 h hb
  have hx2 := HI.out.cell 2 (.string tn) rfl
  go_upto_region 3 with (fail)
  go_cut [12] (fun v12 wc => v12 = .bool bad ∧ Aside0 (RtI w #[.bool d, .int .i64 kd, .string tn, .slice A3 l3.length c3, .slice A4 l4.length c4] wc))
  case first =>
   have hb := HB.out
   unfold policy_Right.bad at hb
   by_cases c2 : tn.toList = ([42] : List UInt8)
   ·
    rw [if_pos c2] at hb
    obtain rfl := Option.some.inj hb
    have c2b0 : (tn.toList == ([42] : List UInt8)) = true := beq_iff_eq.mpr c2
    have c2b1 : (tn.toList != ([42] : List UInt8)) = false := bne_eq_false_iff_eq.mpr c2
    clear c2 hb
    go_wp2
    go_meet
    case rel => exact ⟨rfl, HI⟩
   ·
    rw [if_neg c2] at hb
    obtain ⟨b, hb1, hb2⟩ := Option.bind_eq_some_iff.mp hb
    obtain rfl := Option.some.inj hb2
    have c2b0 : (tn.toList == ([42] : List UInt8)) = false := beq_eq_false_iff_ne.mpr c2
    have c2b1 : (tn.toList != ([42] : List UInt8)) = true := bne_iff_ne.mpr c2
    have HB1 := Aside0.mk hb1
    clear c2 hb hb1 hb2
    go_wp2_with fail
    refine (policy_name.calls tn b _ HB1.out).mono ?_
    rintro e w2 ⟨rfl, hbl⟩
    have HI2 := Aside0.mk (HI.out.below hbl)
    clear hbl HI hx2
    go_wp2
    go_meet
    case rel => exact ⟨rfl, HI2⟩
  clear HI hx2 HB
  obtain ⟨rfl, HI⟩ := hcut
  have h := HH.out
  clear HH
  by_cases c3 : bad = true
  ·
   subst c3
   rw [if_pos rfl] at h
   obtain rfl := Option.some.inj h
   clear h
   go_wp2
   go_ret
   exact ⟨rfl, HI.out.be⟩
  ·
   rw [if_neg c3] at h
   obtain rfl : bad = false := Bool.eq_false_iff.mpr c3
   clear c3
   unfold policy_Right.rest at h
   obtain ⟨why, hw, h⟩ := Option.bind_eq_some_iff.mp h
   have HW := Aside0.mk hw
   have HH := Aside0.mk h
   clear hw h
   have hx3 := HI.out.cell 3 (.slice A3 l3.length c3) rfl
   go_wp2_with fail
   refine (attr_RightMatch.calls k A3 c3 l3 why _ (Kd.C_below HR3.out HI.out.be) hc3 HW.out (env_below HE.out HI.out.be)).mono ?_
   rintro e w3 ⟨rfl, hbl⟩
   have HI3 := Aside0.mk (HI.out.below hbl)
   clear hbl HI hx3 HW
   have h := HH.out
   clear HH
   by_cases c4 : why = 0
   ·
    subst c4
    rw [if_pos rfl] at h
    have HH := Aside0.mk h
    clear h
    have hx0 := HI3.out.cell 0 (.bool d) rfl
    have hx3 := HI3.out.cell 3 (.slice A3 l3.length c3) rfl
    have hx4 := HI3.out.cell 4 (.slice A4 l4.length c4) rfl
    go_upto_region 8 with (fail)
    go_cut [28] (fun v28 wc => v28 = .bool (decide (d = true ∧ ((l3.length : Int) > 1 ∨ (l4.length : Int) > 0))) ∧ Aside0 (RtI w #[.bool d, .int .i64 kd, .string tn, .slice A3 l3.length c3, .slice A4 l4.length c4] wc))
    case first =>
     clear HH
     by_cases d1 : d = true
     ·
      subst d1
      by_cases d2 : (l3.length : Int) > 1
      ·
       have e1 : decide (1 < (l3.length : Int)) = true := decide_eq_true d2
       have e2 : decide (1 < l3.length) = true := decide_eq_true (by omega)
       have E3 : Aside0 (decide (true = true ∧ ((l3.length : Int) > 1 ∨ (l4.length : Int) > 0)) = true) := ⟨decide_eq_true ⟨rfl, .inl d2⟩⟩
       clear d2
       go_wp2
       go_meet
       case rel => exact ⟨by rw [E3.out], HI3⟩
      ·
       have e1 : decide (1 < (l3.length : Int)) = false := decide_eq_false d2
       have e2 : decide (1 < l3.length) = false := decide_eq_false (by omega)
       by_cases d3 : (l4.length : Int) > 0
       ·
        have e4 : decide (0 < (l4.length : Int)) = true := decide_eq_true d3
        have e5 : decide (0 < l4.length) = true := decide_eq_true (by omega)
        have E3 : Aside0 (decide (true = true ∧ ((l3.length : Int) > 1 ∨ (l4.length : Int) > 0)) = true) := ⟨decide_eq_true ⟨rfl, .inr d3⟩⟩
        clear d2 d3
        go_wp2
        go_meet
        case rel => exact ⟨by rw [E3.out], HI3⟩
       ·
        have e4 : decide (0 < (l4.length : Int)) = false := decide_eq_false d3
        have e5 : decide (0 < l4.length) = false := decide_eq_false (by omega)
        have E3 : Aside0 (decide (true = true ∧ ((l3.length : Int) > 1 ∨ (l4.length : Int) > 0)) = false) := ⟨decide_eq_false (fun hh => hh.2.elim d2 d3)⟩
        clear d2 d3
        go_wp2
        go_meet
        case rel => exact ⟨by rw [E3.out], HI3⟩
     ·
      obtain rfl : d = false := Bool.eq_false_iff.mpr d1
      have E3 : Aside0 (decide (false = true ∧ ((l3.length : Int) > 1 ∨ (l4.length : Int) > 0)) = false) := ⟨decide_eq_false (fun hh => by simp at hh)⟩
      clear d1
      go_wp2
      go_meet
      case rel => exact ⟨by rw [E3.out], HI3⟩
    clear HI3 hx0 hx3 hx4
    obtain ⟨rfl, HI⟩ := hcut
    have h := HH.out
    clear HH
    by_cases c5 : d = true ∧ ((l3.length : Int) > 1 ∨ (l4.length : Int) > 0)
    ·
     rw [if_pos c5] at h
     obtain rfl := Option.some.inj h
     rw [decide_eq_true c5]
     clear h c5
     go_wp2
     go_ret
     exact ⟨rfl, HI.out.be⟩
    ·
     rw [if_neg c5] at h
     rw [decide_eq_false c5]
     clear c5
     have hx4 := HI.out.cell 4 (.slice A4 l4.length c4) rfl
     by_cases c6 : (l4.length : Int) > 16
     ·
      rw [if_pos c6] at h
      obtain rfl := Option.some.inj h
      have e1 : decide (16 < (l4.length : Int)) = true := decide_eq_true c6
      have e2 : decide (16 < l4.length) = true := decide_eq_true (by omega)
      clear h c6
      go_wp2
      go_ret
      exact ⟨rfl, HI.out.be⟩
     ·
      rw [if_neg c6] at h
      have e1 : decide (16 < (l4.length : Int)) = false := decide_eq_false c6
      have e2 : decide (16 < l4.length) = false := decide_eq_false (by omega)
      have hl4 : l4.length ≤ 16 := by omega
      clear c6
      obtain ⟨b, hb, h⟩ := Option.bind_eq_some_iff.mp h
      have HB := Aside0.mk hb
      have HH := Aside0.mk h
      clear hb h
      go_wp2_with fail
      refine (slices_ContainsFunc_string_string.calls k A4 c4 l4 b _ (Kd.C_below HR4.out HI.out.be) hc4 HB.out).mono ?_
      rintro e w4 ⟨rfl, ⟨nd4, rfl⟩⟩
      replace HI := Aside0.mk (HI.out.drewN nd4)
      clear HB hx4
      have hx4 := HI.out.cell 4 (.slice A4 l4.length c4) rfl
      have h := HH.out
      clear HH
      by_cases c7 : b = true
      ·
       subst c7
       rw [if_pos rfl] at h
       obtain rfl := Option.some.inj h
       clear h
       go_wp2
       go_ret
       exact ⟨rfl, HI.out.be⟩
      ·
       rw [if_neg c7] at h
       obtain rfl : b = false := Bool.eq_false_iff.mpr c7
       clear c7
       by_cases c8 : l4.all (fun s => decide (s.size ≤ 9223372036854775807)) = true
       ·
        rw [if_pos c8] at h
        have HH := Aside0.mk h
        have HS := Aside0.mk c8
        clear h c8
        go_upto_region 14 with (fail)
        clear hx4
        generalize wc.drewN nd4 = W5 at HI ⊢
        have hx4 : (W5.alloc (.map #[] 0)).cell? ⟨w.heap.size, 4, none⟩ = some (.slice A4 l4.length c4) := (HI.out.below ((Below.refl _ _).alloc (Nat.le_refl _) _)).cell 4 (.slice A4 l4.length c4) rfl
        have hM : w.heap.size < W5.heap.size := blk_lt HI.out.bk
        go_wp2
        go_loopw [56] (fun i wr => ∃ j : Nat, j ≤ l4.length ∧ i = .int .i64 j ∧ Aside0 (wr.ownsMap Tryz.prog 9 (plainElem (H := Unit) Tryz.prog 4) W5.heap.size j (metSet (l4.take j))) ∧ Aside0 (RtI w #[.bool d, .int .i64 kd, .string tn, .slice A3 l3.length c3, .slice A4 l4.length c4] wr)) (fun i _ => l4.length - (intOf i).toNat)
        case atStart => exact ⟨0, Nat.zero_le _, rfl, ⟨by rw [metSet_nil]; exact World.ownsMap_made _ _ _ _⟩, ⟨HI.out.below ((Below.refl _ _).alloc (Nat.le_refl _) _)⟩⟩
        case round =>
         clear HI hx4
         obtain ⟨j, hj, rfl, HO, HI⟩ := hrel
         by_cases hlt : j < l4.length
         ·
          have c9b0 : decide ((j : Int) < (l4.length : Int)) = true := decide_eq_true (by omega)
          have c9b1 : decide (j < l4.length) = true := decide_eq_true hlt
          have p9 : (0 : Int) ≤ (j : Int) := by omega
          have q9 : (j : Int) < (l4.length : Int) := by omega
          obtain ⟨ad, e9, hx9⟩ := Kd.at_string (Kd.C_below HR4.out HI.out.be) (j : Int) p9 q9
          cases e9
          rw [Int.toNat_natCast] at hx9
          have hg : l4[j]? = some (rdOf ByteArray.empty l4 (j : Int)) := by
           unfold rdOf
           rw [List.getElem?_eq_getElem hlt]
           simp [List.getD, List.getElem?_eq_getElem hlt]
          have hkey : keyOf Tryz.prog 9 (.string (rdOf ByteArray.empty l4 (j : Int))) = some (.string (rdOf ByteArray.empty l4 (j : Int)).data.toList) := by
           refine Go.WideMaps.keyOf_string_mk Tryz.underlying9 ?_
           have := List.all_eq_true.1 HS.out _ (List.mem_of_getElem? hg)
           unfold maxLen
           exact of_decide_eq_true this
          replace p9 := eq_true p9
          replace q9 := eq_true q9
          go_wp2_with (first
           | (at_mapUpdate; refine wpList_mapUpdate_own _ rfl _ _ _ 91 rfl 9 4 law9 Tryz.underlying91 (plainElem (H := Unit) Tryz.prog 4) W5.heap.size j _ rfl HO.out (by unfold maxLen; omega) _ _ _ rfl rfl hkey _ [] (plainElem_bool Tryz.underlying4 true) ?_; intro w1 hown1 hgrow1)
           | go_in)
          go_roundw
          case rel => exact ⟨j + 1, hlt, by go_num, ⟨by rw [metSet_snoc l4 j _ hg]; exact hown1⟩, ⟨HI.out.grown hgrow1 hM⟩⟩
          case measure => simp [intOf]; omega
         ·
          obtain rfl : j = l4.length := by omega
          have c9b0 : decide ((l4.length : Int) < (l4.length : Int)) = false := decide_eq_false (by omega)
          have c9b1 : decide (l4.length < l4.length) = false := decide_eq_false hlt
          have hx4 := HI.out.cell 4 (.slice A4 l4.length c4) rfl
          have hsz : Go.Maps.size (metSet (H := Unit) (l4.take l4.length)) = distinctN l4 := by rw [List.take_length, metSet_size]
          have h := HH.out
          clear HH
          by_cases c10 : (distinctN l4 : Int) < (l4.length : Int)
          ·
           rw [if_pos c10] at h
           obtain rfl := Option.some.inj h
           have c10b0 : decide ((distinctN l4 : Int) < (l4.length : Int)) = true := decide_eq_true c10
           have c10b1 : decide (distinctN l4 < l4.length) = true := decide_eq_true (by omega)
           clear h c10 hlt
           go_wp2_with (first
            | (at_len; refine wpList_len_own _ rfl _ 91 rfl 9 4 Tryz.underlying91 _ W5.heap.size _ _ rfl HO.out ?_; rw [hsz])
            | go_in)
           go_ret
           exact ⟨rfl, HI.out.be⟩
          ·
           rw [if_neg c10] at h
           obtain rfl := Option.some.inj h
           have c10b0 : decide ((distinctN l4 : Int) < (l4.length : Int)) = false := decide_eq_false c10
           have c10b1 : decide (distinctN l4 < l4.length) = false := decide_eq_false (by omega)
           clear h c10 hlt
           go_wp2_with (first
            | (at_len; refine wpList_len_own _ rfl _ 91 rfl 9 4 Tryz.underlying91 _ W5.heap.size _ _ rfl HO.out ?_; rw [hsz])
            | go_in)
           go_ret
           exact ⟨rfl, HI.out.be⟩
       ·
        rw [if_neg c8] at h
        cases h
   ·
    rw [if_neg c4] at h
    obtain rfl := Option.some.inj h
    have c4b0 : (why != 0) = true := bne_iff_ne.mpr c4
    clear h c4
    go_wp2
    go_ret
    exact ⟨rfl, HI3.out.be⟩
end Go.Proofs.YtkedidjjhhjdbaaGreatDoor.Pr
end
section
set_option linter.unusedVariables false
set_option linter.unusedSimpArgs false
namespace Go.Proofs.YtkedidjjhhjdbaaGreatDoor.Pr
open Go.RowKit Go.Proofs.YtkedidjjhhjdbaaGreatDoorW.PrintWords Go.Proofs.YtkedidjjhhjdbaaGreatDoorW.PrintLast Go.Proofs.YtkedidjjhhjdbaaGreatDoorW.PrintMore
def WRow (w : World) (base : Nat) (ok : Nat → Prop) (v : Value) (xs : List S33) : Prop :=
  ∃ A c, v = .slice A xs.length c ∧ xs.length ≤ c ∧ xs.length ≤ 9223372036854775807 ∧ (xs = [] ∨ ∃ g cur, A = some ⟨g, 0, none⟩ ∧ ok g ∧ base ≤ g ∧ w.heap[g]? = some (.cells cur 33 (0, 0)) ∧ cur.toList.take (xs.length * 3) = xs.flatMap enc33)
theorem WRow.C {w : World} {base : Nat} {ok : Nat → Prop} {v : Value} {xs : List S33} (h : WRow w base ok v xs) : ∃ A c, v = .slice A xs.length c ∧ xs.length ≤ c ∧ Kd.C k33 w A xs.length xs := by
 obtain ⟨A, c, rfl, hc, hm, h⟩ := h
 refine ⟨A, c, rfl, hc, ?_⟩
 rcases h with rfl | ⟨g, cur, rfl, _, _, hb, ht⟩
 ·
  exact ⟨rfl, by simp, fun h => by simp at h⟩
 ·
  refine flat33.C' hm (fun _ => ⟨_, rfl, fun j u hu => ?_⟩)
  have hc' := blk_cell hb j
  rw [← ht] at hu
  rw [List.getElem?_take] at hu
  split at hu
  ·
   rw [Array.getElem?_toList] at hu
   by_cases hj : j = 0
   ·
    subst hj; exact hc'.trans hu
   ·
    simpa [Addr.add, hj] using hc'.trans hu
  ·
   cases hu
theorem WRow.of_R {w : World} {base : Nat} {ok : Nat → Prop} {A : Option Addr} {n c : Nat} {xs : List S33} (h : Kd.R k33 33 w base ok (.slice A n c) xs) : WRow w base ok (.slice A n n) xs := by
 obtain ⟨h0, ho⟩ := flat33.R h
 have hC := (Kd.R_reads' h)
 obtain ⟨rfl, hnc, hCC⟩ := hC
 refine ⟨A, xs.length, rfl, Nat.le_refl _, hCC.2.1, ?_⟩
 rcases ho.2 with ⟨hv, hn⟩ | ⟨g, cap, cur, hv, hg, hh, hnc', hcm, hcs, ht⟩
 ·
  exact .inl (List.eq_nil_of_length_eq_zero hn)
 ·
  injection hv with h1 h2 h3
  subst h1
  exact .inr ⟨g, cur, rfl, h0 g rfl, hg, hh, ht⟩
def wk : Kd (List S33) where
  sz := 1
  E := [33]
  K := (Kd.slice 33 k33).K
  M := fun w base ok xs cs => ∃ v, cs = [v] ∧ WRow w base ok v xs
  K_len := (Kd.slice 33 k33).K_len
  K_one := (Kd.slice 33 k33).K_one
  K_below := (Kd.slice 33 k33).K_below
  K_of_M := by
    rintro w base ok x cs ⟨v, rfl, h⟩
    obtain ⟨A, c, rfl, hl, hr⟩ := h.C
    exact ⟨A, c, rfl, hl, hr⟩
  M_mono := by
    rintro w base ok ok' x cs hok ⟨v, rfl, A, c, rfl, hc, hm, h⟩
    refine ⟨_, rfl, A, c, rfl, hc, hm, ?_⟩
    rcases h with rfl | ⟨g, cur, rfl, hg, r⟩
    · exact .inl rfl
    · exact .inr ⟨g, cur, rfl, hok g hg, r⟩
  M_bound := by
    rintro w base ok x cs ⟨v, rfl, A, c, rfl, hc, hm, h⟩
    refine ⟨_, rfl, A, c, rfl, hc, hm, ?_⟩
    rcases h with rfl | ⟨g, cur, rfl, hg, hb, hh, ht⟩
    · exact .inl rfl
    · exact .inr ⟨g, cur, rfl, ⟨hg, hb, blk_lt hh, 33, List.mem_cons_self, cur, hh⟩, hb, hh, ht⟩
  M_move := by
    rintro w w1 base ok x cs hmv ⟨v, rfl, A, c, rfl, hc, hm, h⟩
    refine ⟨_, rfl, A, c, rfl, hc, hm, ?_⟩
    rcases h with rfl | ⟨g, cur, rfl, hg, hb, hh, ht⟩
    · exact .inl rfl
    · exact .inr ⟨g, cur, rfl, hg, hb, (hmv g hg).trans hh, ht⟩
  M_lower := by
    rintro w base base' ok x cs hbb ⟨v, rfl, A, c, rfl, hc, hm, h⟩
    refine ⟨_, rfl, A, c, rfl, hc, hm, ?_⟩
    rcases h with rfl | ⟨g, cur, rfl, hg, hb, r⟩
    · exact .inl rfl
    · exact .inr ⟨g, cur, rfl, hg, Nat.le_trans hbb hb, r⟩
def kV : Kd S31 := Kd.iso (Kd.pair Kd.string (Kd.pair wk (Kd.slice 9 Kd.string))) (fun x : S31 => (x.f0, x.f1, x.f2))
theorem kV_mkM (w : World) (base : Nat) (ok : Nat → Prop) (x : S31) {v1 v2 : Value} (g1 : WRow w base ok v1 x.f1) (g2 : Kd.string.R 9 w base ok v2 x.f2) : kV.M w base ok x [.string x.f0, v1, v2] :=
 ⟨[.string x.f0], [v1, v2], rfl, rfl, ⟨[v1], [v2], rfl, ⟨v1, rfl, g1⟩, ⟨v2, rfl, g2⟩⟩⟩
theorem kV_C {w : World} {A : Option Addr} {n : Nat} {xs : List S31} (h : Kd.C kV w A n xs) : Kd.C k31 w A n xs := h
end Go.Proofs.YtkedidjjhhjdbaaGreatDoor.Pr
end
section
set_option linter.unusedVariables false
set_option linter.unusedSimpArgs false
namespace Go.Proofs.YtkedidjjhhjdbaaGreatDoor.Pr
open Go.RowKit Go.Proofs.YtkedidjjhhjdbaaGreatDoorW.PrintWords Go.Proofs.YtkedidjjhhjdbaaGreatDoorW.PrintLast Go.Proofs.YtkedidjjhhjdbaaGreatDoorW.PrintMore
structure StopAt2 (p : Prop) : Prop where
  out : p
set_option maxHeartbeats 1000000 in
set_option maxRecDepth 100000 in
theorem slices_Grow_M.calls (n : Nat) (w : World) (hn : n * 40 ≤ 140737488355328) :
  Calls Tryz.prog 91 #[.slice none 0 0, .int .i64 n] w fun e w' => ∃ v0_ : Value, e = .returned v0_ ∧ Kd.R k33 33 w' w.heap.size (fun _ => True) v0_ ([] : List S33) ∧ Below w.heap.size w w' := by
 have hu48 := Tryz.underlying28
 have hn2 : n ≤ 140737488355328 := by omega
 rcases Nat.eq_zero_or_pos n with h0 | h0
 ·
  subst h0
  clear hn hn2
  go_enter Tryz.func91, Tryz.ntmps91
  go_wp2
  go_ret
  exact ⟨_, rfl, Kd.R_nil _ _ _ _ _, Below.refl _ _⟩
 ·
  have HL := Aside0.mk hn
  clear hn
  go_enter Tryz.func91, Tryz.ntmps91
  go_wp2_with (first | ((with_reducible refine gate_builtin (b := .append) (xs := #[.tmp 20, .tmp 21]) rfl ?_); at_builtin; refine Kd.R_append_zeros k33 (w0 := w) w.heap.size rfl (.tmp 20) (.tmp 21) 28 3 33 (.agg #[.int .i64 0, .string ⟨#[]⟩, .string ⟨#[]⟩]) 40 rfl Tryz.underlying28 Tryz.underlying3 info33 rfl (by decide) (by omega) (.slice none 0 0) ([] : List S33) z33 (n : Int) (fun _ => True) rfl rfl ?aZ (fun _ _ => trivial) ?aR (by omega) ?aB (Nat.le_refl _) ?aL ?_; (case aZ => exact k33_mkM _ _ _ z33); (case aR => exact Kd.R_nil _ _ _ _ _); (case aB => exact Below.refl _ _); (case aL => have := HL.out; simp only [List.length_nil]; omega); intro v1 w1 ho hb hg hat; obtain ⟨g, c, e1, hbg, _⟩ := Kd.R_form ho (by simp; omega); have hnc := (by have := ho; rw [e1] at this; exact (Kd.R_reads' this).2.1 : _); have HO := Aside0.mk ho; have HB := Aside0.mk hb; clear ho hb hg hat hbg; subst e1; simp only [List.nil_append, List.length_replicate] at HO hnc ⊢))
  go_ret
  exact ⟨_, rfl, by have := Kd.R_take HO.out (m := 0) (Nat.zero_le _); simpa using this, HB.out⟩
set_option maxHeartbeats 2000000 in
set_option maxRecDepth 100000 in
theorem slices_Concat_M.calls (b : Nat) (A0 A1 : Option Addr) (c0 c1 : Nat) (l0 l1 : List S33) (w : World) (h0 : w.cell? ⟨b, 0, none⟩ = some (.slice A0 l0.length c0)) (h1 : w.cell? ⟨b, 1, none⟩ = some (.slice A1 l1.length c1)) (hb : b < w.heap.size)
  (hr0 : Kd.C k33 w A0 l0.length l0) (hr1 : Kd.C k33 w A1 l1.length l1) (hn : (l0.length + l1.length) * 40 ≤ 140737488355328) :
  Calls Tryz.prog 62 #[.slice (some ⟨b, 0, none⟩) 2 2] w fun e w' => ∃ v0_ : Value, e = .returned v0_ ∧ Kd.R k33 33 w' w.heap.size (fun _ => True) v0_ (l0 ++ l1) ∧ Below w.heap.size w w' := by
 have hu48 := Tryz.underlying28
 have hu80 := Tryz.underlying120
 have hn2 : l0.length + l1.length ≤ 3518437208883 := by omega
 have HL := Aside0.mk hn
 have HR0 := Aside0.mk hr0
 have HR1 := Aside0.mk hr1
 clear hn hr0 hr1
 go_enter Tryz.func62, Tryz.ntmps62
 go_wp2_with fail
 refine wp_loop_rounds 3 ?_
 rw [rounds_succ]
 go_wp2_with fail
 rw [rounds_succ]
 go_wp2_with fail
 rw [rounds_succ]
 go_wp2_with fail
 refine (slices_Grow_M.calls (l0.length + l1.length) _ HL.out).mono ?_
 rintro e w1 ⟨v0, rfl, ho, hB⟩
 have HN := Aside0.mk hn2
 have g0 := (hB.cell (p := ⟨b, 0, none⟩) hb).trans h0
 have g1 := (hB.cell (p := ⟨b, 1, none⟩) hb).trans h1
 have HO := Aside0.mk ho
 have HB := Aside0.mk hB
 have H0 := Aside0.mk h0
 have H1 := Aside0.mk h1
 have HLT := Aside0.mk hb
 clear ho hB h0 h1 hb hn2
 go_wp2_with fail
 refine wp_loop_rounds 3 ?_
 rw [rounds_succ]
 go_wp2_with (first | ((with_reducible refine gate_builtin (b := .append) (xs := #[.tmp 31, .tmp 32]) rfl ?_); at_builtin; refine Kd.R_append_rows k33 (w0 := w) w.heap.size rfl (.tmp 31) (.tmp 32) 28 33 (.agg #[.int .i64 0, .string ⟨#[]⟩, .string ⟨#[]⟩]) 40 rfl Tryz.underlying28 info33 rfl (by decide) (by omega) v0 ([] : List S33) l0 A0 l0.length c0 (fun _ => True) (fun _ => False) rfl rfl HO.out (Kd.C_below HR0.out HB.out) (fun _ _ h => h) (fun _ h => h.elim) (fun _ _ => trivial) HB.out HB.out.size ?aL ?_; (case aL => have := HL.out; have := HN.out; simp only [List.length_nil, List.length_append]; omega); intro v1 w2 ho hb2 hg hat; apply StopAt2.out))
 apply StopAt2.mk
 clear g0 g1
 have g0 := (hb2.cell (p := ⟨b, 0, none⟩) HLT.out).trans H0.out
 have g1 := (hb2.cell (p := ⟨b, 1, none⟩) HLT.out).trans H1.out
 have HO2 := Aside0.mk ho
 have HB2 := Aside0.mk hb2
 clear ho hb2 hg hat
 go_wp2_with fail
 rw [rounds_succ]
 go_wp2_with (first | ((with_reducible refine gate_builtin (b := .append) (xs := #[.tmp 31, .tmp 32]) rfl ?_); at_builtin; refine Kd.R_append_rows k33 (w0 := w) w.heap.size rfl (.tmp 31) (.tmp 32) 28 33 (.agg #[.int .i64 0, .string ⟨#[]⟩, .string ⟨#[]⟩]) 40 rfl Tryz.underlying28 info33 rfl (by decide) (by omega) v1 ([] ++ l0) l1 A1 l1.length c1 (fun _ => True) (fun _ => False) rfl rfl HO2.out (Kd.C_below HR1.out HB2.out) (fun _ _ h => h) (fun _ h => h.elim) (fun _ _ => trivial) HB2.out HB2.out.size ?aL ?_; (case aL => have := HL.out; have := HN.out; simp only [List.length_nil, List.length_append]; omega); intro v2 w3 ho hb2 hg hat; apply StopAt2.out))
 apply StopAt2.mk
 have HO3 := Aside0.mk ho
 have HB3 := Aside0.mk hb2
 clear ho hb2 hg hat g0 g1
 go_wp2_with fail
 rw [rounds_succ]
 go_wp2_with fail
 go_ret
 exact ⟨_, rfl, HO3.out, HB3.out⟩
end Go.Proofs.YtkedidjjhhjdbaaGreatDoor.Pr
end
section
namespace Go.Proofs.YtkedidjjhhjdbaaGreatDoor.Pr
open Go.RowKit Go.Proofs.YtkedidjjhhjdbaaGreatDoorW.PrintWords Go.Proofs.YtkedidjjhhjdbaaGreatDoorW.PrintLast Go.Proofs.YtkedidjjhhjdbaaGreatDoorW.PrintMore
attribute [local go_sem] max2_int min2_int max_two min_two max_three min_three max_four min_four strGtr strLeq strGeq
set_option linter.unusedVariables false
set_option linter.unusedSimpArgs false
theorem eqA33 (d : Nat) (w : World) (x0 y0 : Int) (x1 y1 : ByteArray) (x2 y2 : ByteArray) :
  (Op.equalIn (d + 2) 33 (.agg #[.int .i64 x0, .string x1, .string x2]) (.agg #[.int .i64 y0, .string y1, .string y2])).run Tryz.prog w = .ok (x0 == y0 && (x1.toList == y1.toList && (x2.toList == y2.toList))) w := by
 refine eqA_of Tryz.underlying33 (by kernel_rfl) ?_
 refine eqf_cons (by rfl) (by go_simp; rfl) (by go_simp; rfl) (by go_simp) ?_
 refine eqf_cons (by rfl) (by go_simp; rfl) (by go_simp; rfl) (by go_simp) ?_
 exact eqf_last (by rfl) (by go_simp; rfl) (by go_simp; rfl) (by go_simp)
end Go.Proofs.YtkedidjjhhjdbaaGreatDoor.Pr
end
section
set_option linter.unusedVariables false
set_option linter.unusedSimpArgs false
namespace Go.Proofs.YtkedidjjhhjdbaaGreatDoor.Pr
open Go.RowKit Go.Proofs.YtkedidjjhhjdbaaGreatDoorW.PrintWords Go.Proofs.YtkedidjjhhjdbaaGreatDoorW.PrintLast Go.Proofs.YtkedidjjhhjdbaaGreatDoorW.PrintMore
open Go.Sort (flatK HoldsK putRowK ahead grow)
theorem sw_heap_ne {α : Type} [Inhabited α] (enc : α → List Value) (k : Nat) (w : World) (g n : Nat) (d : Array α) (os : Array Obj) (i : Nat) (hi : i < w.heap.size) (hne : i ≠ g) : (sortWorldK enc k w g 0 n d os).heap[i]? = w.heap[i]? := by
 unfold sortWorldK Sort.grow Sort.putRowK Sort.putRow Sort.mapBlock Sort.ahead
 simp only
 rw [Array.getElem?_append_left (by simpa using hi), Array.getElem?_modify, if_neg (Ne.symm hne)]
theorem sw_heap_eq {α : Type} [Inhabited α] (enc : α → List Value) (k : Nat) (w : World) (g n : Nat) (d : Array α) (os : Array Obj) {cur : Array Value} {e : TypeId} (hg : w.heap[g]? = some (.cells cur e (0, 0))) :
  (sortWorldK enc k w g 0 n d os).heap[g]? = some (.cells (Sort.putCells id 0 (flatK enc k d) cur) e (0, 0)) := by
 have hlt : g < w.heap.size := (Array.getElem?_eq_some_iff.1 hg).1
 unfold sortWorldK Sort.grow Sort.putRowK Sort.putRow Sort.mapBlock Sort.ahead
 simp only
 rw [Array.getElem?_append_left (by simpa using hlt), Array.getElem?_modify, if_pos rfl, hg]
 rfl
theorem sw_size {α : Type} [Inhabited α] (enc : α → List Value) (k : Nat) (w : World) (g n : Nat) (d : Array α) (os : Array Obj) : w.heap.size ≤ (sortWorldK enc k w g 0 n d os).heap.size := by
 unfold sortWorldK Sort.grow Sort.putRowK Sort.putRow Sort.mapBlock Sort.ahead
 simp
theorem sw_below {α : Type} [Inhabited α] (enc : α → List Value) (k : Nat) (w0 w : World) (g n : Nat) (d : Array α) (os : Array Obj) (hB : Below w0.heap.size w0 w) (hg : w0.heap.size ≤ g) : Below w0.heap.size w0 (sortWorldK enc k w g 0 n d os) :=
 hB.trans ⟨rfl, rfl, rfl, sw_size enc k w g n d os, fun i hi => sw_heap_ne enc k w g n d os i (Nat.lt_of_lt_of_le hi hB.size) (by omega)⟩
theorem putCells_take (F cur : Array Value) (hs : F.size ≤ cur.size) : (Sort.putCells id 0 F cur).toList.take F.size = F.toList := by
 apply List.ext_getElem?
 intro i
 rw [List.getElem?_take]
 by_cases hi : i < F.size
 ·
  rw [if_pos hi]
  have hc : i < cur.size := by omega
  simp only [Sort.putCells, Array.getElem?_toList, Array.getElem?_mapIdx, Array.getElem?_eq_getElem hc, Option.map_some, Nat.zero_le, Nat.zero_add, hi, and_self, if_true, Nat.sub_zero, id]
  rw [getElem!_pos F i hi, Array.getElem?_eq_getElem hi]
 ·
  rw [if_neg hi, List.getElem?_eq_none (by simp; omega)]
section
variable {α : Type} [Inhabited α] {d : Kd α} {enc : α → List Value}
theorem Flat.holds (F : Flat d enc) {e : Nat} {w : World} {base : Nat} {ok : Nat → Prop} {v : Value} {xs : List α} (h : d.R e w base ok v xs) (hp : 0 < xs.length) :
  ∃ g cap, v = .slice (some ⟨g, 0, none⟩) xs.length cap ∧ base ≤ g ∧ g < w.heap.size ∧ ok g ∧ HoldsK enc d.sz w g 0 xs.toArray := by
 obtain ⟨hok, ho⟩ := F.R h
 rcases ho.2 with ⟨_, h0⟩ | ⟨g, cap, cur, rfl, hb, hg, hn, hc, hs, ht⟩
 ·
  omega
 ·
  refine ⟨g, cap, rfl, hb, (Array.getElem?_eq_some_iff.1 hg).1, hok g rfl, fun j hj => ?_⟩
  have hj' : j < xs.length * d.sz := by simpa using hj
  have hcur : j < cur.size := by
   rw [hs]
   exact Nat.lt_of_lt_of_le hj' (Nat.mul_le_mul_right _ hn)
  have hF : (flatK enc d.sz xs.toArray)[j]! = cur[j] := by
   rw [getElem!_pos _ j hj, ← Array.getElem_toList]
   have e1 : (flatK enc d.sz xs.toArray).toList[j]? = some cur[j] := by
    rw [flatK_eq enc d.sz F.len, ← ht, List.getElem?_take, if_pos hj']
    simp [hcur]
   rw [List.getElem?_eq_getElem (by simpa using hj)] at e1
   exact Option.some.inj e1
  rw [hF, Nat.zero_add]
  refine ⟨?_, ?_⟩
  ·
   simp [World.cell?, hg, hcur]
  ·
   simp [World.frozen?, hg]
theorem Flat.sorted (F : Flat d enc) {e : Nat} {w : World} {base : Nat} {ok : Nat → Prop} {g cap n : Nat} {xs : List α} (h : d.R e w base ok (.slice (some ⟨g, 0, none⟩) xs.length cap) xs) (d' : Array α) (hs : d'.size = xs.length) (os : Array Obj) :
  d.R e (sortWorldK enc d.sz w g 0 n d' os) base ok (.slice (some ⟨g, 0, none⟩) xs.length cap) d'.toList := by
 obtain ⟨hok, ho⟩ := F.R h
 rcases ho.2 with ⟨hx, h0⟩ | ⟨g', cap', cur, hv, hb, hg, hn, hc, hcs, ht⟩
 ·
  cases hx
 ·
  injection hv with h1 h2 h3
  injection h1 with h1
  injection h1 with h1
  subst h1; subst h3
  have hl : d'.toList.length = xs.length := by simpa using hs
  have hm : xs.length * d.sz ≤ cap * d.sz := Nat.mul_le_mul_right _ hn
  refine F.R' hok ?_
  rw [hl]
  refine ⟨by rw [flat_len d.sz F.len, hl], .inr ⟨g, cap, _, rfl, hb, sw_heap_eq enc d.sz w g n d' os hg, hn, hc, by simp [Sort.putCells, hcs], ?_⟩⟩
  have hfs : (flatK enc d.sz d').size = xs.length * d.sz := by simp [hs]
  rw [← hfs, putCells_take _ _ (by rw [hfs, hcs]; exact hm)]
  have := flatK_eq enc d.sz F.len d'.toList
  simpa using this
end
theorem cmp_refl : ∀ a : List UInt8, Lib.compareBytes a a = 0
 | [] => rfl
 | a :: x => by simp [Lib.compareBytes, cmp_refl x]
theorem cmp_lt : ∀ a b : List UInt8, decide (Lib.compareBytes a b < 0) = Op.bytesLess a b
 | [], [] => rfl
 | [], _ :: _ => rfl
 | _ :: _, [] => rfl
 | a :: x, b :: y => by
  unfold Lib.compareBytes Op.bytesLess
  by_cases h1 : a < b
  ·
   simp [h1]
  ·
   by_cases h2 : b < a
   ·
    have : ¬ a = b := by rintro rfl; exact h1 h2
    simp [h1, h2, this]
   ·
    have : a = b := UInt8.toNat_inj.1 (by
     have h1' : ¬ a.toNat < b.toNat := h1
     have h2' : ¬ b.toNat < a.toNat := h2
     omega)
    subst this
    simp only [h1, if_false]
    rw [cmp_lt x y]
    simp
theorem less_trans : ∀ a b c : List UInt8, Op.bytesLess a b = true → Op.bytesLess b c = true → Op.bytesLess a c = true
 | _, [], _, h, _ => by cases ‹List UInt8› <;> simp [Op.bytesLess] at h
 | _, _ :: _, [], _, h => by simp [Op.bytesLess] at h
 | [], _ :: _, _ :: _, _, _ => rfl
 | a :: x, b :: y, c :: z, h1, h2 => by
  simp only [Op.bytesLess, Bool.or_eq_true, decide_eq_true_eq, Bool.and_eq_true, beq_iff_eq] at *
  rcases h1 with h1 | ⟨rfl, h1⟩
  ·
   rcases h2 with h2 | ⟨rfl, h2⟩
   ·
    left
    have h1' : a.toNat < b.toNat := h1
    have h2' : b.toNat < c.toNat := h2
    show a.toNat < c.toNat
    omega
   ·
    exact .inl h1
  ·
   rcases h2 with h2 | ⟨rfl, h2⟩
   ·
    exact .inl h2
   ·
    exact .inr ⟨rfl, less_trans x y z h1 h2⟩
theorem less_ntrans (a b c : List UInt8) (h1 : Op.bytesLess a b = false) (h2 : Op.bytesLess b c = false) : Op.bytesLess a c = false := by
 have e1 := bytesLess_total a b
 have e2 := bytesLess_total b c
 rw [h1] at e1
 rw [h2] at e2
 rcases Bool.eq_false_or_eq_true (Op.bytesLess a c) with h | h
 ·
  exfalso
  by_cases hab : a = b
  ·
   subst hab; rw [h] at h2; cases h2
  ·
   by_cases hbc : b = c
   ·
    subst hbc; rw [h] at h1; cases h1
   ·
    have hba : Op.bytesLess b a = true := by rw [← e1]; simp [hab]
    have hcb : Op.bytesLess c b = true := by rw [← e2]; simp [hbc]
    have := less_trans c b a hcb hba
    have := less_trans a c a h this
    rw [bytesLess_irrefl] at this
    cases this
 ·
  exact h
end Go.Proofs.YtkedidjjhhjdbaaGreatDoor.Pr
end
section
set_option linter.unusedVariables false
set_option linter.unusedSimpArgs false
namespace Go.Proofs.YtkedidjjhhjdbaaGreatDoor.Pr
open Go.RowKit Go.Proofs.YtkedidjjhhjdbaaGreatDoorW.PrintWords Go.Proofs.YtkedidjjhhjdbaaGreatDoorW.PrintLast Go.Proofs.YtkedidjjhhjdbaaGreatDoorW.PrintMore
attribute [local go_sem high] eqA33
def cmpMat (x y : S33) : Int := if x.f1.data.toList = y.f1.data.toList then (if x.f0 = y.f0 then Lib.compareBytes x.f2.data.toList y.f2.data.toList else if x.f0 < y.f0 then -1 else 1) else Lib.compareBytes x.f1.data.toList y.f1.data.toList
theorem toList_data54 (a : ByteArray) : a.toList = a.data.toList := by rw [ByteArray.toList_eq]
set_option maxHeartbeats 4000000 in
set_option maxRecDepth 100000 in
theorem attr_order.walk (a0 : Int) (a1 a2 : ByteArray) (b0 : Int) (b1 b2 : ByteArray) (w : World) :
  Calls Tryz.prog 65 #[.agg #[.int .i64 a0, .string a1, .string a2], .agg #[.int .i64 b0, .string b1, .string b2]] w fun e w' => e = .returned (.int .i64 (cmpMat ⟨a0, a1, a2⟩ ⟨b0, b1, b2⟩)) ∧ ∃ q os', w' = Sort.grow (w.drewN q) os' := by
 have hu54 := Tryz.underlying33
 unfold cmpMat
 simp only
 have hcon := fun (a b : ByteArray) W' => Tryz.strings_Compare a b W'
 by_cases h0 : a1.data.toList = b1.data.toList
 ·
  rw [if_pos h0]
  have k0 : (a1.toList == b1.toList) = true := by rw [toList_data54, toList_data54]; exact beq_iff_eq.mpr h0
  have k0' : (a1.toList != b1.toList) = false := by rw [toList_data54, toList_data54]; exact bne_eq_false_iff_eq.mpr h0
  by_cases h1 : a0 = b0
  ·
   rw [if_pos h1]
   have k1 : (a0 == b0) = true := beq_iff_eq.mpr h1
   have k1' : (a0 != b0) = false := bne_eq_false_iff_eq.mpr h1
   by_cases h2 : a2.data.toList = b2.data.toList
   ·
    have k2 : (a2.toList == b2.toList) = true := by rw [toList_data54, toList_data54]; exact beq_iff_eq.mpr h2
    have hr : Lib.compareBytes a2.data.toList b2.data.toList = 0 := by rw [h2]; exact cmp_refl _
    rw [hr]
    clear h0 h1 h2 hr hcon
    go_enter Tryz.func65, Tryz.ntmps65
    go_wp2
    go_ret
    exact ⟨rfl, 0, _, by rw [Sort.alloc_eq_grow, Sort.alloc_eq_grow, Sort.grow_grow]; rfl⟩
   ·
    have k2 : (a2.toList == b2.toList) = false := by rw [toList_data54, toList_data54]; exact beq_eq_false_iff_ne.mpr h2
    have hc := hcon a2 b2
    generalize Lib.compareBytes a2.data.toList b2.data.toList = r at hc ⊢
    clear h0 h1 h2 hcon
    go_enter Tryz.func65, Tryz.ntmps65
    go_wp2_with (go_at_call 96; refine (hc _).mono ?_; rintro e w' ⟨rfl, rfl⟩)
    go_ret
    exact ⟨rfl, 0, _, by rw [Sort.alloc_eq_grow, Sort.alloc_eq_grow, Sort.grow_grow]; rfl⟩
  ·
   rw [if_neg h1]
   have k1 : (a0 == b0) = false := beq_eq_false_iff_ne.mpr h1
   have k1' : (a0 != b0) = true := bne_iff_ne.mpr h1
   by_cases h2 : a0 < b0
   ·
    rw [if_pos h2]
    have k2 : decide (a0 < b0) = true := decide_eq_true h2
    clear h0 h1 h2 hcon
    go_enter Tryz.func65, Tryz.ntmps65
    go_wp2
    go_ret
    exact ⟨rfl, 0, _, by rw [Sort.alloc_eq_grow, Sort.alloc_eq_grow, Sort.grow_grow]; rfl⟩
   ·
    rw [if_neg h2]
    have k2 : decide (a0 < b0) = false := decide_eq_false h2
    clear h0 h1 h2 hcon
    go_enter Tryz.func65, Tryz.ntmps65
    go_wp2
    go_ret
    exact ⟨rfl, 0, _, by rw [Sort.alloc_eq_grow, Sort.alloc_eq_grow, Sort.grow_grow]; rfl⟩
 ·
  rw [if_neg h0]
  have k0 : (a1.toList == b1.toList) = false := by rw [toList_data54, toList_data54]; exact beq_eq_false_iff_ne.mpr h0
  have k0' : (a1.toList != b1.toList) = true := by rw [toList_data54, toList_data54]; exact bne_iff_ne.mpr h0
  have hc := hcon a1 b1
  generalize Lib.compareBytes a1.data.toList b1.data.toList = r at hc ⊢
  clear h0 hcon
  go_enter Tryz.func65, Tryz.ntmps65
  go_wp2_with (go_at_call 96; refine (hc _).mono ?_; rintro e w' ⟨rfl, rfl⟩)
  go_ret
  exact ⟨rfl, 0, _, by rw [Sort.alloc_eq_grow, Sort.alloc_eq_grow, Sort.grow_grow]; rfl⟩
end Go.Proofs.YtkedidjjhhjdbaaGreatDoor.Pr
end
section
namespace Go.Proofs
open Go.Shelf
def Tryz.laySortM_ren : Go.Shelf.Ren := ⟨fun | 6 => 64 | 15 => 95 | 14 => 94 | 28 => 127 | 29 => 128 | 20 => 119 | 21 => 120 | 22 => 121 | 23 => 122 | 24 => 123 | 25 => 124 | 26 => 125 | 27 => 126 | 46 => 146 | 47 => 147 | 48 => 148 | 49 => 149 | 50 => 150 | 57 => 166 | n => n, fun | 22 => 28 | 24 => 33 | 25 => 100 | 3 => 3 | 39 => 124 | 0 => 0 | 53 => 149 | 55 => 151 | 4 => 4 | 46 => 142 | 45 => 141 | 50 => 146 | 5 => 5 | 9 => 9 | 66 => 168 | 70 => 172 | 76 => 196 | 77 => 197 | n => n, fun | n => n⟩
theorem Tryz.laySortM : Go.Proofs.SlLaysF0.n6 Tryz.prog Tryz.laySortM_ren := {
 mixed := by kernel_rfl
 f6 := ⟨Tryz.f64.name, by decide, Tryz.func64.trans (congrArg some (by kernel_rfl))⟩
 f14 := ⟨Tryz.f94.name, by decide, Tryz.func94.trans (congrArg some (by kernel_rfl))⟩
 f15 := Tryz.func95.trans (congrArg some (by kernel_rfl))
 f20 := ⟨Tryz.f119.name, by decide, Tryz.func119.trans (congrArg some (by kernel_rfl))⟩
 f21 := ⟨Tryz.f120.name, by decide, Tryz.func120.trans (congrArg some (by kernel_rfl))⟩
 f22 := ⟨Tryz.f121.name, by decide, Tryz.func121.trans (congrArg some (by kernel_rfl))⟩
 f23 := ⟨Tryz.f122.name, by decide, Tryz.func122.trans (congrArg some (by kernel_rfl))⟩
 f24 := ⟨Tryz.f123.name, by decide, Tryz.func123.trans (congrArg some (by kernel_rfl))⟩
 f25 := ⟨Tryz.f124.name, by decide, Tryz.func124.trans (congrArg some (by kernel_rfl))⟩
 f26 := ⟨Tryz.f125.name, by decide, Tryz.func125.trans (congrArg some (by kernel_rfl))⟩
 f27 := ⟨Tryz.f126.name, by decide, Tryz.func126.trans (congrArg some (by kernel_rfl))⟩
 f28 := Tryz.func127.trans (congrArg some (by kernel_rfl))
 f29 := Tryz.func128.trans (congrArg some (by kernel_rfl))
 f46 := ⟨Tryz.f146.name, by decide, Tryz.func146.trans (congrArg some (by kernel_rfl))⟩
 f47 := Tryz.func147.trans (congrArg some (by kernel_rfl))
 f48 := Tryz.func148.trans (congrArg some (by kernel_rfl))
 f49 := ⟨Tryz.f149.name, by decide, Tryz.func149.trans (congrArg some (by kernel_rfl))⟩
 f50 := ⟨Tryz.f150.name, by decide, Tryz.func150.trans (congrArg some (by kernel_rfl))⟩
 f57 := ⟨Tryz.f166.name, by decide, Tryz.func166.trans (congrArg some (by kernel_rfl))⟩
 t0 := Tryz.underlying0
 a0 := Tryz.isAgg0
 z0 := Tryz.sizeOf0
 v0 := Tryz.zeroValue0
 t3 := Tryz.underlying3
 a3 := Tryz.isAgg3
 z3 := Tryz.sizeOf3
 v3 := Tryz.zeroValue3
 t4 := Tryz.underlying4
 a4 := Tryz.isAgg4
 z4 := Tryz.sizeOf4
 v4 := Tryz.zeroValue4
 t5 := Tryz.underlying5
 a5 := Tryz.isAgg5
 z5 := Tryz.sizeOf5
 v5 := Tryz.zeroValue5
 t9 := Tryz.underlying9
 a9 := Tryz.isAgg9
 z9 := Tryz.sizeOf9
 v9 := Tryz.zeroValue9
 t22 := Tryz.underlying28
 a22 := Tryz.isAgg28
 z22 := Tryz.sizeOf28
 v22 := Tryz.zeroValue28
 t25 := Tryz.underlying100
 a25 := Tryz.isAgg100
 z25 := Tryz.sizeOf100
 v25 := Tryz.zeroValue100
 t39 := Tryz.underlying124
 a39 := Tryz.isAgg124
 z39 := Tryz.sizeOf124
 v39 := Tryz.zeroValue124
 t45 := Tryz.underlying141
 a45 := Tryz.isAgg141
 z45 := Tryz.sizeOf141
 v45 := Tryz.zeroValue141
 t46 := Tryz.underlying142
 a46 := Tryz.isAgg142
 z46 := Tryz.sizeOf142
 v46 := Tryz.zeroValue142
 t50 := Tryz.underlying146
 a50 := Tryz.isAgg146
 z50 := Tryz.sizeOf146
 v50 := Tryz.zeroValue146
 t53 := Tryz.underlying149
 a53 := Tryz.isAgg149
 z53 := Tryz.sizeOf149
 v53 := Tryz.zeroValue149
 t55 := Tryz.underlying151
 a55 := Tryz.isAgg151
 z55 := Tryz.sizeOf151
 v55 := Tryz.zeroValue151
 t66 := Tryz.underlying168
 a66 := Tryz.isAgg168
 z66 := Tryz.sizeOf168
 v66 := Tryz.zeroValue168
 t70 := Tryz.underlying172
 a70 := Tryz.isAgg172
 z70 := Tryz.sizeOf172
 v70 := Tryz.zeroValue172
 t76 := Tryz.underlying196
 a76 := Tryz.isAgg196
 z76 := Tryz.sizeOf196
 v76 := Tryz.zeroValue196
 t77 := Tryz.underlying197
 a77 := Tryz.isAgg197
 z77 := Tryz.sizeOf197
 v77 := Tryz.zeroValue197 }
end Go.Proofs
end
section
set_option linter.unusedVariables false
set_option linter.unusedSimpArgs false
namespace Go.Proofs.YtkedidjjhhjdbaaGreatDoor.Pr
open Go.RowKit Go.Proofs.YtkedidjjhhjdbaaGreatDoorW.PrintWords Go.Proofs.YtkedidjjhhjdbaaGreatDoorW.PrintLast Go.Proofs.YtkedidjjhhjdbaaGreatDoorW.PrintMore
open Go.Sort (flatK HoldsK putRowK ahead grow)
theorem cmpMat_lt (x y : S33) : ltOf cmpMat x y = true ↔ (Op.bytesLess x.f1.data.toList y.f1.data.toList = true ∨ (x.f1.data.toList = y.f1.data.toList ∧ (x.f0 < y.f0 ∨ (x.f0 = y.f0 ∧ Op.bytesLess x.f2.data.toList y.f2.data.toList = true)))) := by
 unfold ltOf cmpMat
 by_cases h0 : x.f1.data.toList = y.f1.data.toList
 ·
  rw [if_pos h0, h0, bytesLess_irrefl]
  by_cases h1 : x.f0 = y.f0
  ·
   rw [if_pos h1, cmp_lt]; simp [h1]
  ·
   rw [if_neg h1]
   by_cases h2 : x.f0 < y.f0
   ·
    rw [if_pos h2]; simp [h2]
   ·
    rw [if_neg h2]; simp [h1, h2]
 ·
  rw [if_neg h0, cmp_lt]; simp [h0]
theorem swoMat : Sort.SWO (ltOf cmpMat) where
 irrefl x := by
  rcases hb : ltOf cmpMat x x with _ | _
  ·
   rfl
  ·
   rcases (cmpMat_lt x x).1 hb with h | ⟨_, h | ⟨_, h⟩⟩
   ·
    rw [bytesLess_irrefl] at h; cases h
   ·
    omega
   ·
    rw [bytesLess_irrefl] at h; cases h
 trans x y z h1 h2 := by
  rw [cmpMat_lt] at *
  rcases h1 with h1 | ⟨e1, h1⟩ <;> rcases h2 with h2 | ⟨e2, h2⟩
  ·
   exact .inl (less_trans _ _ _ h1 h2)
  ·
   rw [← e2]; exact .inl h1
  ·
   rw [e1]; exact .inl h2
  ·
   refine .inr ⟨e1.trans e2, ?_⟩
   rcases h1 with h1 | ⟨f1, h1⟩ <;> rcases h2 with h2 | ⟨f2, h2⟩
   ·
    exact .inl (by omega)
   ·
    exact .inl (by omega)
   ·
    exact .inl (by omega)
   ·
    exact .inr ⟨f1.trans f2, less_trans _ _ _ h1 h2⟩
 ntrans x y z h1 h2 := by
  rcases hb : ltOf cmpMat x z with _ | _
  ·
   rfl
  ·
   exfalso
   have n1 : ¬ _ := fun h => Bool.noConfusion (h1.symm.trans ((cmpMat_lt x y).2 h))
   have n2 : ¬ _ := fun h => Bool.noConfusion (h2.symm.trans ((cmpMat_lt y z).2 h))
   have t1 := bytesLess_total x.f1.data.toList y.f1.data.toList
   have t2 := bytesLess_total y.f1.data.toList z.f1.data.toList
   have u1 := bytesLess_total x.f2.data.toList y.f2.data.toList
   have u2 := bytesLess_total y.f2.data.toList z.f2.data.toList
   have a1 : Op.bytesLess x.f1.data.toList y.f1.data.toList = false := by
    rcases h : Op.bytesLess x.f1.data.toList y.f1.data.toList with _ | _
    ·
     rfl
    ·
     exact (n1 (.inl h)).elim
   have a2 : Op.bytesLess y.f1.data.toList z.f1.data.toList = false := by
    rcases h : Op.bytesLess y.f1.data.toList z.f1.data.toList with _ | _
    ·
     rfl
    ·
     exact (n2 (.inl h)).elim
   have a3 := less_ntrans _ _ _ a1 a2
   rcases (cmpMat_lt x z).1 hb with h | ⟨e, h⟩
   ·
    rw [h] at a3; cases a3
   ·
    have e1 : x.f1.data.toList = y.f1.data.toList := by
     rcases Decidable.em (x.f1.data.toList = y.f1.data.toList) with e1 | e1
     ·
      exact e1
     ·
      rw [a1, beq_eq_false_iff_ne.2 e1] at t1
      rw [e] at t1
      rw [a2] at t2
      have : (y.f1.data.toList == z.f1.data.toList) = false := beq_eq_false_iff_ne.2 (fun e' => e1 (e.trans e'.symm))
      rw [← t1] at a2; cases a2
    have e2 : y.f1.data.toList = z.f1.data.toList := e1.symm.trans e
    have o1 : ¬ x.f0 < y.f0 := fun h => (n1 (.inr ⟨e1, .inl h⟩)).elim
    have o2 : ¬ y.f0 < z.f0 := fun h => (n2 (.inr ⟨e2, .inl h⟩)).elim
    rcases h with h | ⟨eo, h⟩
    ·
     omega
    ·
     have p1 : x.f0 = y.f0 := by omega
     have p2 : y.f0 = z.f0 := by omega
     have b1 : Op.bytesLess x.f2.data.toList y.f2.data.toList = false := by
      rcases h' : Op.bytesLess x.f2.data.toList y.f2.data.toList with _ | _
      ·
       rfl
      ·
       exact (n1 (.inr ⟨e1, .inr ⟨p1, h'⟩⟩)).elim
     have b2 : Op.bytesLess y.f2.data.toList z.f2.data.toList = false := by
      rcases h' : Op.bytesLess y.f2.data.toList z.f2.data.toList with _ | _
      ·
       rfl
      ·
       exact (n2 (.inr ⟨e2, .inr ⟨p2, h'⟩⟩)).elim
     have := less_ntrans _ _ _ b1 b2
     rw [h] at this; cases this
theorem cmpLays50 (blk off size : Nat) (w : World) : CmpLays Tryz.prog 65 #[] enc33 3 cmpMat blk off size w := fun _ _ _ _ x y => attr_order.walk x.f0 x.f1 x.f2 y.f0 y.f1 y.f2 _
def sorted33 (l : List S33) : List S33 := (Sort.pdq (ltOf cmpMat) l.toArray 0 l.toArray.size (Lib.bitLen l.toArray.size) true true).toList
theorem sorted33_perm (l : List S33) : (sorted33 l).Perm l ∧ (sorted33 l).length = l.length ∧ Sort.SortedIn (ltOf cmpMat) 0 l.length (sorted33 l).toArray := by
 have h := Sort.pdq_sorts (ltOf cmpMat) swoMat l.toArray 0 l.toArray.size (Lib.bitLen l.toArray.size) true true (Nat.zero_le _) (Nat.le_refl _) (Or.inl rfl)
 unfold sorted33
 generalize Sort.pdq (ltOf cmpMat) l.toArray 0 l.toArray.size (Lib.bitLen l.toArray.size) true true = X at h
 obtain ⟨⟨h1, _, h3⟩, h4⟩ := h
 have e1 : X.extract 0 l.toArray.size = X := by rw [← h1]; simp
 have e2 : l.toArray.extract 0 l.toArray.size = l.toArray := by simp
 rw [e1, e2] at h3
 exact ⟨by simpa using h3, by simpa using h1, by simpa using h4⟩
theorem sorted33_nil : sorted33 [] = [] := by
 have := (sorted33_perm []).2.1
 exact List.eq_nil_of_length_eq_zero this
set_option maxHeartbeats 1000000 in
theorem slices_SortFunc_M.calls (P0_ : Nat → Prop) (u9000_ : Value) (l0 : List S33) (w0 w : World) (hB : Below w0.heap.size w0 w) (ho0 : Kd.R k33 33 w w0.heap.size P0_ u9000_ l0) (hl : l0.length < 4611686018427387904) :
  Calls Tryz.prog 64 #[u9000_, .func (.func 65) #[] #[]] w fun e w' => e = .returned (.tuple #[]) ∧ Kd.R k33 33 w' w0.heap.size P0_ u9000_ (sorted33 l0) ∧ Below w0.heap.size w0 w' := by
 rcases Nat.eq_zero_or_pos l0.length with h0 | h0
 ·
  have hn := List.eq_nil_of_length_eq_zero h0
  subst hn
  obtain ⟨A, c, rfl⟩ := Kd.R_slice ho0
  have hcon := AnyF.slices_SortFunc_none Tryz.laySortM A c (.func (.func 65) #[] #[]) w
  change Calls Tryz.prog 64 _ _ _ at hcon
  refine hcon.mono fun e w' ⟨he, hw⟩ => ?_
  subst hw
  exact ⟨he, by rw [sorted33_nil]; exact ho0, hB⟩
 ·
  obtain ⟨g, cap, rfl, hbase, hlt, hok, hH⟩ := flat33.holds ho0 h0
  have eg : ∀ args w, (callFunc 65 args).run Tryz.prog w = .ok (.enter 65 args) w := enters_of Tryz.func65 (by kernel_rfl) rfl
  have hcon := AnyQ.slices_SortFunc_eq Tryz.laySortM 3 Tryz.isAgg33 Tryz.sizeOf33 enc33 (fun _ => rfl) (fun x => flat33.one x) cmpMat swoMat 65 #[] g 0 cap l0.toArray w eg (cmpLays50 g 0 _ w) hH hlt (by simpa using hl)
  change Calls Tryz.prog 64 _ _ _ at hcon
  have hsz : l0.toArray.size = l0.length := by simp
  refine Calls.mono (by rw [hsz] at hcon; exact hcon) ?_
  rintro e w' ⟨he, n, os, rfl⟩
  refine ⟨he, ?_, sw_below _ _ w0 w g n _ os hB hbase⟩
  have hR := flat33.sorted (n := n) ho0 (Sort.pdq (ltOf cmpMat) l0.toArray 0 l0.toArray.size (Lib.bitLen l0.toArray.size) true true) (by have := (sorted33_perm l0).2.1; unfold sorted33 at this; simpa using this) os
  rw [hsz] at hR
  unfold sorted33
  rw [hsz]
  exact hR
end Go.Proofs.YtkedidjjhhjdbaaGreatDoor.Pr
end
section
set_option linter.unusedVariables false
set_option linter.unusedSimpArgs false
namespace Go.Proofs.YtkedidjjhhjdbaaGreatDoor.Pr
open Go.RowKit Go.Proofs.YtkedidjjhhjdbaaGreatDoorW.PrintWords Go.Proofs.YtkedidjjhhjdbaaGreatDoorW.PrintLast Go.Proofs.YtkedidjjhhjdbaaGreatDoorW.PrintMore
attribute [local go_sem high] eqA33
def eqM (x y : S33) : Bool := x.f0 == y.f0 && (x.f1.toList == y.f1.toList && (x.f2.toList == y.f2.toList))
def ddFrom : S33 → List S33 → List S33
  | _, [] => []
  | p, x :: l => if eqM x p then ddFrom x l else x :: ddFrom x l
def dd : List S33 → List S33
  | [] => []
  | x :: l => x :: ddFrom x l
theorem drop_at54 (l : List S33) (i : Nat) (h : i < l.length) : l.drop i = rd_T33 l (i : Int) :: l.drop (i + 1) := by
 rw [List.drop_eq_getElem_cons h]; simp [rd_T33, h]
theorem take_at54 (l : List S33) (i : Nat) (h : i < l.length) : l.take (i + 1) = l.take i ++ [rd_T33 l (i : Int)] := by
 rw [List.take_succ_eq_append_getElem h]; simp [rd_T33, h]
section
variable {w : World} {base g n cap : Nat} {ok : Nat → Prop} {xs : List S33}
theorem cells54 (h : Kd.R k33 33 w base ok (.slice (some ⟨g, 0, none⟩) n cap) xs) (i : Nat) (hi : i < n) :
  (w.cell? ⟨g, i * 3, none⟩ = some (.int .i64 (rd_T33 xs (i : Int)).f0) ∧ w.cell? ⟨g, i * 3 + 1, none⟩ = some (.string (rd_T33 xs (i : Int)).f1) ∧ w.cell? ⟨g, i * 3 + 2, none⟩ = some (.string (rd_T33 xs (i : Int)).f2)) ∧
  w.frozen? ⟨g, i * 3, none⟩ = false ∧ w.frozen? ⟨g, i * 3 + 1, none⟩ = false ∧ w.frozen? ⟨g, i * 3 + 2, none⟩ = false := by
 obtain ⟨c, hcl, hM, hcc, hfr⟩ := Kd.R_elem h z33 (i : Int) (by omega) (by omega)
 obtain rfl := k33_openM hM
 exact ⟨⟨hcc 0 _ rfl, hcc 1 _ rfl, hcc 2 _ rfl⟩, hfr 0, hfr 1, hfr 2⟩
theorem put54 (h : Kd.R k33 33 w base ok (.slice (some ⟨g, 0, none⟩) n cap) xs) (i : Nat) (hi : i < n) (x : S33) :
  Kd.R k33 33 (((w.setCell ⟨g, i * 3, none⟩ (.int .i64 x.f0)).setCell ⟨g, i * 3 + 1, none⟩ (.string x.f1)).setCell ⟨g, i * 3 + 2, none⟩ (.string x.f2)) base ok (.slice (some ⟨g, 0, none⟩) n cap) (xs.set i x) ∧
  w.grownBy (((w.setCell ⟨g, i * 3, none⟩ (.int .i64 x.f0)).setCell ⟨g, i * 3 + 1, none⟩ (.string x.f1)).setCell ⟨g, i * 3 + 2, none⟩ (.string x.f2)) (some g) := by
 obtain ⟨c, hcl, hM, hcc, hfr⟩ := Kd.R_elem h z33 (i : Int) (by omega) (by omega)
 exact Kd.R_seg h (i : Int) (by omega) (by omega) (seg := [.int .i64 x.f0, .string x.f1, .string x.f2]) (j := 0) hcl hcc (show 3 ≤ 3 from by decide) (x' := x) (okp := fun k => ok k ∧ k ≠ g)
  (by obtain rfl := k33_openM hM; exact k33_mkM _ _ _ x) (fun _ hk => hk)
theorem clear54 (h : Kd.R k33 33 w base ok (.slice (some ⟨g, 0, none⟩) n cap) xs) (k c : Nat) (hk : k < n) :
  ∃ w', (∀ ty, (Builtin.clear_ #[28] ty #[.slice (some ⟨g, k * 3, none⟩) (n - k) c]).run Tryz.prog w = .ok (.tuple #[]) w') ∧ Kd.R k33 33 w' base ok (.slice (some ⟨g, 0, none⟩) k cap) (xs.take k) ∧ w.grownBy w' (some g) := by
 have h' := Kd.R_take h (m := k) (by have := (Kd.R_reads' h).1; omega)
 obtain ⟨hok, ho⟩ := flat33.R h
 obtain ⟨hok', ho'⟩ := flat33.R h'
 rcases ho.2 with ⟨hv, _⟩ | ⟨g1, cap1, cur, hv, hb, hh, hnc, hcm, hcs, ht⟩
 ·
  cases hv
 injection hv with h1 h2 h3
 injection h1 with h1
 injection h1 with h1
 subst h1; subst h2; subst h3
 have hd : k33.sz = 3 := rfl
 rw [hd] at hcs
 have hz : ∀ w, (zeroValue 33).run Tryz.prog w = .ok (.agg #[.int .i64 0, .string ⟨#[]⟩, .string ⟨#[]⟩]) w := fun w => by kernel_rfl
 have hce : (Value.agg #[.int .i64 0, .string ⟨#[]⟩, .string ⟨#[]⟩]).cells = #[.int .i64 0, .string ⟨#[]⟩, .string ⟨#[]⟩] := by kernel_rfl
 have hlen : (Builtin.zeroCells #[.int .i64 0, .string ⟨#[]⟩, .string ⟨#[]⟩] (xs.length - k)).toList.length = (xs.length - k) * 3 := by simp [Builtin.zeroCells]
 have hone : ∀ v ∈ (Builtin.zeroCells #[.int .i64 0, .string ⟨#[]⟩, .string ⟨#[]⟩] (xs.length - k)).toList, v.oneCell' = true := by
  intro v hv
  simp only [Builtin.zeroCells, Array.toList_map, List.mem_map] at hv
  obtain ⟨i, _, rfl⟩ := hv
  have hi : i % 3 < 3 := Nat.mod_lt _ (by decide)
  have : i % 3 = 0 ∨ i % 3 = 1 ∨ i % 3 = 2 := by omega
  rcases this with e | e | e <;> simp [e, Value.oneCell']
 generalize hZ : (Builtin.zeroCells #[.int .i64 0, .string ⟨#[]⟩, .string ⟨#[]⟩] (xs.length - k)).toList = Z at hlen hone
 have hfit : k * 3 + Z.length ≤ cur.size := by rw [hlen, hcs, ← Nat.add_mul]; exact Nat.mul_le_mul_right 3 (by omega)
 have hst := run_storeCells_cells (P := Tryz.prog) g (k * 3) Z 0 w (fun j hj => by rw [cell_of_row w g _ cur 33 (0, 0) hh]; simp; omega) (fun j _ => blk_frozen hh _) hone
 simp only [Nat.add_zero] at hst
 obtain ⟨m, hm⟩ : ∃ m, xs.length - k = m + 1 := ⟨xs.length - k - 1, by omega⟩
 refine ⟨w.setCells g (k * 3) Z, fun ty => ?_, ?_, ?_⟩
 ·
  rw [hm] at hZ ⊢
  simp [Builtin.clear_, run_underlying Tryz.underlying28, hz, hce, hZ, hst]
 ·
  obtain ⟨cur', h3, h4, h5⟩ := setCells_row Z (k * 3) w cur hh hfit
  refine flat33.R' hok' ⟨ho'.1, .inr ⟨g, cap, cur', by simp; omega, hb, h3, by simp; omega, hcm, by rw [h4, hcs, hd], ?_⟩⟩
  rcases ho'.2 with ⟨hv, _⟩ | ⟨g1, cap1, cur1, hv, _, hh1, _, _, _, ht1⟩
  ·
   cases hv
  injection hv with h1 h2 h3
  injection h1 with h1
  injection h1 with h1
  subst h1
  rw [hh] at hh1
  injection hh1 with hh1
  injection hh1 with hh1
  subst hh1
  rw [← ht1, hd]
  have hk' : (xs.take k).length = k := by simp; omega
  rw [hk', h5, List.append_assoc, List.take_append_of_le_length (by simp; omega), List.take_take, Nat.min_self]
 ·
  obtain ⟨s1, s2, s3, s4⟩ := setCells_same g Z (k * 3) w
  exact ⟨s1, s2, s3, by rw [s4]; exact Nat.le_refl _, fun q _ hq => setCells_far Z _ q (fun he => hq (by rw [he]))⟩
end
end Go.Proofs.YtkedidjjhhjdbaaGreatDoor.Pr
end
section
set_option linter.unusedVariables false
set_option linter.unusedSimpArgs false
namespace Go.Proofs.YtkedidjjhhjdbaaGreatDoor.Pr
open Go.RowKit Go.Proofs.YtkedidjjhhjdbaaGreatDoorW.PrintWords Go.Proofs.YtkedidjjhhjdbaaGreatDoorW.PrintLast Go.Proofs.YtkedidjjhhjdbaaGreatDoorW.PrintMore
theorem dd_short : ∀ l : List S33, l.length < 2 → dd l = l
 | [], _ => rfl
 | [x], _ => rfl
 | _ :: _ :: l, h => absurd h (by simp)
theorem rd_eq54 {d l : List S33} {i : Nat} (h : d[i]? = l[i]?) : rd_T33 d (i : Int) = rd_T33 l (i : Int) := by
 simp [rd_T33, List.getD_eq_getElem?_getD, h]
theorem drop_step54 {d l : List S33} {m kk : Nat} (u : S33) (h : d.drop m = l.drop m) (hk : kk ≤ m) : (d.set kk u).drop (m + 1) = l.drop (m + 1) := by
 rw [List.drop_set_of_lt (by omega)]
 have := congrArg (List.drop 1) h
 simp only [List.drop_drop] at this
 exact this
theorem below_own {w0 w w' : World} {g : Nat} (h : Below w0.heap.size w0 w) (hg : w.grownBy w' (some g)) (hb : w0.heap.size ≤ g) : Below w0.heap.size w0 w' :=
 h.grown hg h.size (fun k hk => by cases hk; exact hb)
theorem dd_start (l : List S33) (h : 1 ≤ l.length) : l.take 1 ++ ddFrom (rd_T33 l ((1 - 1 : Nat) : Int)) (l.drop 1) = dd l := by
 cases l with
 | nil => simp at h
 | cons x l => rfl
theorem dd_next (l : List S33) (k : Nat) (hk : k < l.length) (m : List S33) (p : S33) : m ++ ddFrom p (l.drop k) = if eqM (rd_T33 l (k : Int)) p then m ++ ddFrom (rd_T33 l (k : Int)) (l.drop (k + 1)) else (m ++ [rd_T33 l (k : Int)]) ++ ddFrom (rd_T33 l (k : Int)) (l.drop (k + 1)) := by
 rw [drop_at54 l k hk, ddFrom]
 split <;> simp
theorem eqM_run {x y : S33} {b : Bool} (h : eqM x y = b) : ∀ (d : Nat) (W : World), (Op.equalIn (d + 2) 33 (.agg #[.int .i64 x.f0, .string x.f1, .string x.f2]) (.agg #[.int .i64 y.f0, .string y.f1, .string y.f2])).run Tryz.prog W = .ok b W :=
 fun d W => by rw [eqA33]; rw [← h]; rfl
set_option maxHeartbeats 4000000 in
set_option maxRecDepth 100000 in
theorem slices_Compact_M.calls (P0_ : Nat → Prop) (u9000_ : Value) (l0 : List S33) (w0 w : World) (hB : Below w0.heap.size w0 w) (ho0 : Kd.R k33 33 w w0.heap.size P0_ u9000_ l0) (hl : l0.length < 4611686018427387904) :
  Calls Tryz.prog 66 #[u9000_] w fun e w' => ∃ v0_ : Value, e = .returned v0_ ∧ Kd.R k33 33 w' w0.heap.size P0_ v0_ (dd l0) ∧ Below w0.heap.size w0 w' := by
 have hu54 := Tryz.underlying33
 have hu48 := Tryz.underlying28
 by_cases h2 : l0.length < 2
 ·
  obtain ⟨A, c, rfl⟩ := Kd.R_slice ho0
  have HO := Aside0.mk ho0
  have HB := Aside0.mk hB
  clear ho0 hB
  go_enter Tryz.func66, Tryz.ntmps66
  go_wp2
  go_ret
  exact ⟨_, rfl, by rw [dd_short l0 h2]; exact HO.out, HB.out⟩
 ·
  obtain ⟨g, cap, rfl, hbg, hgl, _⟩ := Kd.R_form ho0 (by omega)
  have hcap := (Kd.R_reads' ho0).2.1
  have HO := Aside0.mk ho0
  have HB := Aside0.mk hB
  have HG := Aside0.mk hbg
  clear ho0 hB hbg hgl
  go_enter Tryz.func66, Tryz.ntmps66
  go_wp2
  go_loopg [3] l0.length (fun gk s3 wr => ∃ k q : Nat, 1 ≤ k ∧ k ≤ l0.length ∧ l0.length - k ≤ gk ∧ s3 = .int .i64 k ∧ wr = w.drewN q ∧ Aside0 (l0.take k ++ ddFrom (rd_T33 l0 ((k - 1 : Nat) : Int)) (l0.drop k) = dd l0))
  case atStart => exact ⟨1, 0, Nat.le_refl _, by omega, by omega, rfl, rfl, ⟨dd_start l0 (by omega)⟩⟩
  case round =>
   obtain ⟨k, q, hk1, hk, hg, rfl, rfl, HA⟩ := hrel
   by_cases hlt : k < l0.length
   ·
    obtain ⟨⟨a0, a1, a2⟩, f0, f1, f2⟩ := cells54 HO.out k hlt
    obtain ⟨⟨b0, b1, b2⟩, -, -, -⟩ := cells54 HO.out (k - 1) (by omega)
    have HE := HA.out
    rw [dd_next l0 k hlt] at HE
    have HX := Aside0.mk (show rd_T33 l0 ((k + 1 - 1 : Nat) : Int) = rd_T33 l0 (k : Int) from rfl)
    generalize hx : rd_T33 l0 (k : Int) = x at a0 a1 a2 HE HX
    generalize hy : rd_T33 l0 ((k - 1 : Nat) : Int) = y at b0 b1 b2 HE
    have HX0 := Aside0.mk hx
    clear hx hy HA f0 f1 f2
    cases hdup : eqM x y with
    | true =>
     have he := eqM_run hdup
     rw [hdup, if_pos rfl] at HE
     have HE' := Aside0.mk HE
     clear hdup HE
     go_wp2_with fail
     go_quiet (fail)
     go_wp2
     have HS := Aside0.mk (And.intro (Kd.R_drewN HO.out (q + nq)) (pw_below_drewN HB.out (q + nq)))
     clear a0 a1 a2 b0 b1 b2 he
     go_loopg [3, 5] l0.length (fun gk s3 s5 wr => ∃ (kk k2 : Nat) (d : List S33), s3 = .int .i64 kk ∧ s5 = .int .i64 k2 ∧ 1 ≤ k2 ∧ k + k2 ≤ l0.length ∧ l0.length - (k + k2) ≤ gk ∧ k ≤ kk ∧ kk + 1 ≤ k + k2 ∧ Aside0 (Kd.R k33 33 wr w0.heap.size P0_ (.slice (some ⟨g, 0, none⟩) l0.length cap) d) ∧ Aside0 (Below w0.heap.size w0 wr) ∧ Aside0 (d.length = l0.length ∧ d.drop (k + k2 - 1) = l0.drop (k + k2 - 1) ∧ d.take kk ++ ddFrom (rd_T33 l0 ((k + k2 - 1 : Nat) : Int)) (l0.drop (k + k2)) = dd l0))
     case atStart => exact ⟨k, 1, l0, rfl, rfl, Nat.le_refl _, by omega, by omega, Nat.le_refl _, Nat.le_refl _, ⟨HS.out.1⟩, ⟨HS.out.2⟩, ⟨rfl, rfl, by rw [HX.out]; exact HE'.out⟩⟩
     case round =>
      obtain ⟨kk, k2, d, rfl, rfl, h1, hle, hg2, hkk, hkk2, HR, HBB, HD⟩ := hrel
      by_cases hlt2 : k + k2 < l0.length
      ·
       obtain ⟨⟨a0, a1, a2⟩, -, -, -⟩ := cells54 HR.out (k + k2) hlt2
       obtain ⟨⟨b0, b1, b2⟩, -, -, -⟩ := cells54 HR.out (k + k2 - 1) (by omega)
       obtain ⟨⟨c0, c1, c2⟩, f0, f1, f2⟩ := cells54 HR.out kk (by omega)
       have e1 : rd_T33 d ((k + k2 : Nat) : Int) = rd_T33 l0 ((k + k2 : Nat) : Int) := by
        have := congrArg (fun m => m[1]?) HD.out.2.1
        simp only [List.getElem?_drop] at this
        rw [show k + k2 - 1 + 1 = k + k2 by omega] at this
        exact rd_eq54 this
       have e2 : rd_T33 d ((k + k2 - 1 : Nat) : Int) = rd_T33 l0 ((k + k2 - 1 : Nat) : Int) := by
        have := congrArg (fun m => m[0]?) HD.out.2.1
        simp only [List.getElem?_drop, Nat.add_zero] at this
        exact rd_eq54 this
       rw [e1, show (k + k2) * 3 = k * 3 + k2 * 3 by omega] at a0 a1 a2
       rw [e2, show (k + k2 - 1) * 3 = k * 3 + (k2 - 1) * 3 by omega] at b0 b1 b2
       have HE := HD.out.2.2
       rw [dd_next l0 (k + k2) hlt2] at HE
       clear e1 e2
       generalize hx : rd_T33 l0 ((k + k2 : Nat) : Int) = u at a0 a1 a2 HE
       generalize hy : rd_T33 l0 ((k + k2 - 1 : Nat) : Int) = v at b0 b1 b2 HE
       have HX2 := Aside0.mk hx
       clear hx hy
       cases hdup : eqM u v with
       | true =>
        have he := eqM_run hdup
        rw [hdup, if_pos rfl] at HE
        have HE2 := Aside0.mk HE
        clear hdup HE
        go_wp2_with fail
        go_quiet (fail)
        go_wp2
        go_roundg (l0.length - (k + (k2 + 1)))
        case measure => omega
        case rel => exact ⟨kk, k2 + 1, d, rfl, by go_num, by omega, by omega, Nat.le_refl _, by omega, by omega, ⟨Kd.R_drewN HR.out _⟩, ⟨pw_below_drewN HBB.out _⟩, ⟨HD.out.1, (by have := congrArg (List.drop 1) HD.out.2.1; simp only [List.drop_drop] at this; rw [show k + k2 - 1 + 1 = k + (k2 + 1) - 1 by omega] at this; exact this), (by have := HE2.out; rw [← HX2.out] at this; exact this)⟩⟩
       | false =>
        have he := eqM_run hdup
        rw [hdup, if_neg (by simp)] at HE
        have HE2 := Aside0.mk HE
        clear hdup HE
        go_wp2_with fail
        go_quiet (fail)
        have HP := Aside0.mk (put54 (Kd.R_drewN HR.out nq) kk (by omega) u)
        go_wp2
        go_roundg (l0.length - (k + (k2 + 1)))
        case measure => omega
        case rel => exact ⟨kk + 1, k2 + 1, d.set kk u, by go_num, by go_num, by omega, by omega, Nat.le_refl _, by omega, by omega, ⟨HP.out.1⟩, ⟨below_own (pw_below_drewN HBB.out nq) HP.out.2 HG.out⟩, ⟨by rw [List.length_set]; exact HD.out.1, (by rw [show k + (k2 + 1) - 1 = k + k2 - 1 + 1 by omega]; exact drop_step54 u HD.out.2.1 (by omega)), (by have := HE2.out; rw [← HX2.out] at this ⊢; rw [List.take_succ_eq_append_getElem (by rw [List.length_set, HD.out.1]; omega), List.take_set_of_le (Nat.le_refl _), List.getElem_set_self]; exact this)⟩⟩
      ·
       have hend : k + k2 = l0.length := by omega
       obtain ⟨wz, hz, hRz, hgz⟩ := clear54 HR.out kk (cap - kk) (by omega)
       have HZ := Aside0.mk (And.intro hRz hgz)
       clear hRz hgz
       have HDD := Aside0.mk (show d.take kk = dd l0 from by have := HD.out.2.2; rw [hend, List.drop_of_length_le (Nat.le_refl _), ddFrom, List.append_nil] at this; exact this)
       go_wp2
       go_ret
       exact ⟨_, rfl, by rw [← HDD.out]; exact HZ.out.1, below_own HBB.out HZ.out.2 HG.out⟩
    | false =>
     have he := eqM_run hdup
     rw [hdup, if_neg (by simp)] at HE
     have HE' := Aside0.mk HE
     clear hdup HE
     go_wp2_with fail
     go_quiet (fail)
     go_wp2
     go_roundg (l0.length - (k + 1))
     case measure => omega
     case rel => exact ⟨k + 1, _, by omega, by omega, Nat.le_refl _, by go_num, rfl, ⟨by rw [take_at54 l0 k hlt, HX.out, HX0.out]; exact HE'.out⟩⟩
   ·
    have : k = l0.length := by omega
    subst this
    go_wp2
    go_ret
    exact ⟨_, rfl, by have := HA.out; simp [ddFrom] at this; rw [← this]; exact Kd.R_drewN HO.out _, pw_below_drewN HB.out _⟩
end Go.Proofs.YtkedidjjhhjdbaaGreatDoor.Pr
end
section
set_option linter.unusedVariables false
set_option linter.unusedSimpArgs false
namespace Go.Proofs.YtkedidjjhhjdbaaGreatDoor.Pr
open Go.RowKit Go.Proofs.YtkedidjjhhjdbaaGreatDoorW.PrintWords Go.Proofs.YtkedidjjhhjdbaaGreatDoorW.PrintLast Go.Proofs.YtkedidjjhhjdbaaGreatDoorW.PrintMore
set_option maxHeartbeats 1000000 in
set_option maxRecDepth 100000 in
theorem slices_Clip_M.calls (A : Option Addr) (n c : Nat) (w : World) (hn : n ≤ c) (hc : c ≤ maxLen) (hA : A = none → n = 0 ∧ c = 0) :
  Calls Tryz.prog 67 #[.slice A n c] w fun e w' => e = .returned (.slice A n n) ∧ w' = w := by
 have hu48 := Tryz.underlying28
 unfold maxLen at hc
 cases A with
 | none =>
  obtain ⟨rfl, rfl⟩ := hA rfl
  go_enter Tryz.func67, Tryz.ntmps67
  go_wp2
  go_ret
  exact ⟨rfl, rfl⟩
 | some a =>
  clear hA
  go_enter Tryz.func67, Tryz.ntmps67
  go_wp2
  go_ret
  exact ⟨rfl, rfl⟩
theorem cell_new9 (w : World) (vs : Array Value) (t : TypeId) (j : Nat) (v : Value) (h : vs[j]? = some v) : (w.alloc (.cells vs t)).cell? ⟨w.heap.size, j, none⟩ = some v := by
 rw [World.cell?_alloc_at vs t w.heap.size j rfl]; exact h
theorem R_cap54 {w : World} {base : Nat} {ok : Nat → Prop} {A : Option Addr} {n c : Nat} {xs : List S33} (h : Kd.R k33 33 w base ok (.slice A n c) xs) : c ≤ maxLen ∧ (A = none → n = 0 ∧ c = 0) := by
 obtain ⟨_, ho⟩ := flat33.R h
 rcases ho.2 with ⟨hv, _⟩ | ⟨g, cap, cur, hv, _, _, _, hcm, _⟩
 ·
  injection hv with h1 h2 h3
  subst h1; subst h2; subst h3
  exact ⟨Nat.zero_le _, fun _ => ⟨rfl, rfl⟩⟩
 ·
  injection hv with h1 h2 h3
  subst h1; subst h3
  exact ⟨hcm, fun e => by cases e⟩
def attr_Both.f (k : Nat) (l0 l1 : List S33) : Option (List S33 × Int) :=
  if (l0.length + l1.length) * 40 ≤ 140737488355328 then (attr_wrong.f k (l0 ++ l1)).bind fun why => if ((dd (sorted33 (l0 ++ l1))).length : Int) > 8 then some ([], 7) else if why = 0 then some (dd (sorted33 (l0 ++ l1)), 0) else some ([], why) else none
theorem dd_len : ∀ l : List S33, (dd l).length ≤ l.length := by
 have h : ∀ (l : List S33) (p : S33), (ddFrom p l).length ≤ l.length := by
  intro l
  induction l with
  | nil => intro p; simp [ddFrom]
  | cons x l ih =>
   intro p
   rw [ddFrom]
   split
   ·
    have := ih x; simp; omega
   ·
    have := ih x; simp; omega
 intro l
 cases l with
 | nil => simp [dd]
 | cons x l => rw [dd]; have := h l x; simp; omega
set_option maxHeartbeats 4000000 in
set_option maxRecDepth 100000 in
theorem attr_Both.calls (k : Nat) (A0 : Option Addr) (c0 : Nat) (l0 : List S33) (A1 : Option Addr) (c1 : Nat) (l1 : List S33) (r1 : List S33) (r2 : Int) (w : World) (hr0 : Kd.C k33 w A0 l0.length l0) (hc0 : l0.length ≤ c0) (hr1 : Kd.C k33 w A1 l1.length l1) (hc1 : l1.length ≤ c1) (h : attr_Both.f k l0 l1 = some (r1, r2)) (he_ : EnvW w := by repeat (first | with_reducible assumption | with_reducible exact env_of (by with_reducible assumption) (by with_reducible assumption) | with_reducible exact env_out (by with_reducible assumption) | with_reducible apply env_alloc | with_reducible apply env_drewN | with_reducible apply env_drew | with_reducible refine env_set ?_ (by with_reducible assumption) (by with_reducible assumption))) :
  Calls Tryz.prog 31 #[.slice A0 l0.length c0, .slice A1 l1.length c1] w fun e w' => ∃ v0_ : Value, e = .returned (.tuple #[v0_, .int .i64 r2]) ∧ WRow w' w.heap.size (fun _ => True) v0_ r1 ∧ Below w.heap.size w w' := by
 have hu48 := Tryz.underlying28
 have hu80 := Tryz.underlying120
 unfold attr_Both.f at h
 by_cases hn : (l0.length + l1.length) * 40 ≤ 140737488355328
 ·
  rw [if_pos hn] at h
  obtain ⟨why, hwhy, h⟩ := Option.bind_eq_some_iff.mp h
  have hsl := (sorted33_perm (l0 ++ l1)).2.1
  have hdl := dd_len (sorted33 (l0 ++ l1))
  rw [hsl] at hdl
  have HN := Aside0.mk hn
  have HR0 := Aside0.mk hr0
  have HR1 := Aside0.mk hr1
  have HE := Aside0.mk he_
  have HW := Aside0.mk hwhy
  have H := Aside0.mk h
  have HSL := Aside0.mk hsl
  have HDL := Aside0.mk hdl
  clear hn hr0 hr1 he_ hwhy h hsl hdl
  go_enter Tryz.func31, Tryz.ntmps31
  go_wp2_with fail
  have hg0 : (w.alloc (.cells #[.slice A0 l0.length c0, .slice A1 l1.length c1] 28)).cell? ⟨w.heap.size, 0, none⟩ = some (.slice A0 l0.length c0) := cell_new9 _ _ _ _ _ rfl
  have hg1 : (w.alloc (.cells #[.slice A0 l0.length c0, .slice A1 l1.length c1] 28)).cell? ⟨w.heap.size, 1, none⟩ = some (.slice A1 l1.length c1) := cell_new9 _ _ _ _ _ rfl
  have hg2 : w.heap.size < (w.alloc (.cells #[.slice A0 l0.length c0, .slice A1 l1.length c1] 28)).heap.size := by simp
  have hC0 := Kd.C_alloc HR0.out (.cells #[.slice A0 l0.length c0, .slice A1 l1.length c1] 28)
  have hC1 := Kd.C_alloc HR1.out (.cells #[.slice A0 l0.length c0, .slice A1 l1.length c1] 28)
  have hbw : Below w.heap.size w (w.alloc (.cells #[.slice A0 l0.length c0, .slice A1 l1.length c1] 28)) := (Below.refl _ _).alloc (Nat.le_refl _) _
  generalize w.alloc (.cells #[.slice A0 l0.length c0, .slice A1 l1.length c1] 28) = W at hg0 hg1 hg2 hC0 hC1 hbw ⊢
  refine (slices_Concat_M.calls w.heap.size A0 A1 c0 c1 l0 l1 W hg0 hg1 hg2 hC0 hC1 HN.out).mono ?_
  clear hg0 hg1 hC0 hC1
  rintro e w1 ⟨v0, rfl, ho, hb⟩
  have HB := Aside0.mk (show Below w.heap.size w w1 from hbw.trans (hb.mono (by omega)))
  have HO := Aside0.mk (Kd.R_lower (base' := w.heap.size) ho (by omega))
  clear ho hb hbw hg2
  have hall : (l0 ++ l1).length ≤ 3518437208883 := by have := HN.out; simp only [List.length_append]; omega
  clear HN
  generalize l0 ++ l1 = all at HO HW H HSL HDL hall
  have HA := Aside0.mk hall
  clear hall
  obtain ⟨B, c, e1⟩ := Kd.R_slice HO.out
  subst e1
  go_wp2_with fail
  refine (attr_wrong.calls k B c all why _ (Kd.R_reads' HO.out).2.2 (Kd.R_reads' HO.out).2.1 HW.out (env_below HE.out HB.out)).mono ?_
  rintro e w2 ⟨rfl, hb⟩
  have HO2 := Aside0.mk (Kd.R_below HO.out hb)
  have HB2 := Aside0.mk (below_step HB.out hb)
  clear hb HO HB
  go_wp2_with fail
  refine (slices_SortFunc_M.calls (fun _ => True) _ all w _ HB2.out HO2.out (by have := HA.out; omega)).mono ?_
  rintro e w3 ⟨rfl, ho, hb⟩
  have HO3 := Aside0.mk ho
  have HB3 := Aside0.mk hb
  clear ho hb HO2 HB2
  go_wp2_with fail
  refine (slices_Compact_M.calls (fun _ => True) _ (sorted33 all) w _ HB3.out HO3.out (by have := HA.out; have := HSL.out; omega)).mono ?_
  rintro e w4 ⟨v4, rfl, ho, hb⟩
  have HO4 := Aside0.mk ho
  have HB4 := Aside0.mk hb
  clear ho hb HO3 HB3
  generalize dd (sorted33 all) = m at HO4 H HDL
  obtain ⟨C, c4, e4⟩ := Kd.R_slice HO4.out
  subst e4
  have hdl := HDL.out
  have hnn := HA.out
  have hml : m.length ≤ 3518437208883 := by omega
  have h := H.out
  clear H hdl hnn HA HDL HSL
  by_cases h8 : (m.length : Int) > 8
  ·
   rw [if_pos h8] at h
   simp only [Option.some.injEq, Prod.mk.injEq] at h
   obtain ⟨rfl, rfl⟩ := h
   have d8 : decide (8 < (m.length : Int)) = true := decide_eq_true h8
   have d8' : decide (8 < m.length) = true := decide_eq_true (by omega)
   clear h8
   go_wp2_with fail
   go_ret2
   exact ⟨_, rfl, ⟨none, 0, rfl, Nat.le_refl _, Nat.zero_le _, .inl rfl⟩, HB4.out⟩
  ·
   rw [if_neg h8] at h
   have d8 : decide (8 < (m.length : Int)) = false := decide_eq_false h8
   have d8' : decide (8 < m.length) = false := decide_eq_false (by omega)
   clear h8
   by_cases hw : why = 0
   ·
    rw [if_pos hw] at h
    simp only [Option.some.injEq, Prod.mk.injEq] at h
    obtain ⟨rfl, rfl⟩ := h
    have dw : (why != 0) = false := bne_eq_false_iff_eq.mpr hw
    clear hw
    go_wp2_with fail
    refine (slices_Clip_M.calls C m.length c4 _ (Kd.R_reads' HO4.out).2.1 (R_cap54 HO4.out).1 (R_cap54 HO4.out).2).mono ?_
    rintro e w' ⟨rfl, rfl⟩
    go_wp2_with fail
    go_ret2
    exact ⟨_, rfl, WRow.of_R HO4.out, HB4.out⟩
   ·
    rw [if_neg hw] at h
    simp only [Option.some.injEq, Prod.mk.injEq] at h
    obtain ⟨rfl, rfl⟩ := h
    have dw : (why != 0) = true := bne_iff_ne.mpr hw
    clear hw
    go_wp2_with fail
    go_ret2
    exact ⟨_, rfl, ⟨none, 0, rfl, Nat.le_refl _, Nat.zero_le _, .inl rfl⟩, HB4.out⟩
 ·
  rw [if_neg hn] at h
  cases h
end Go.Proofs.YtkedidjjhhjdbaaGreatDoor.Pr
end
