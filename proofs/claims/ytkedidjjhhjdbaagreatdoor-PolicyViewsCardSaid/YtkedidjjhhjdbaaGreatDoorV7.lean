import Derived.Test.YtkedidjjhhjdbaaGreatDoorV0
import Derived.Test.YtkedidjjhhjdbaaGreatDoorV5
import Derived.Test.YtkedidjjhhjdbaaGreatDoorV6
import Derived.Test.YtkedidjjhhjdbaaGreatDoorV3
section
namespace Go.Proofs.YtkedidjjhhjdbaaGreatDoor.Pr
open Go.RowKit Go.Proofs.YtkedidjjhhjdbaaGreatDoorW.PrintWords Go.Proofs.YtkedidjjhhjdbaaGreatDoorW.PrintLast Go.Proofs.YtkedidjjhhjdbaaGreatDoorW.PrintMore
attribute [local go_sem] max2_int min2_int max_two min_two max_three min_three max_four min_four strGtr strLeq strGeq
set_option linter.unusedVariables false
set_option linter.unusedSimpArgs false
def attr_plain.f (a0 : ByteArray) : Option (Bool) := if (a0.size : Int) ≤ 256 then ((utf8_ValidString.f a0).bind fun t106 => (some t106)) else (some false)
set_option maxHeartbeats 8000000 in
set_option maxRecDepth 100000 in
theorem attr_plain.calls (a0 : ByteArray) (r : Bool) (w : World) (h : attr_plain.f a0 = some r) (he_ : EnvW w := by repeat (first | with_reducible assumption | with_reducible exact env_of (by with_reducible assumption) (by with_reducible assumption) | with_reducible exact env_out (by with_reducible assumption) | with_reducible apply env_alloc | with_reducible apply env_drewN | with_reducible apply env_drew | with_reducible refine env_set ?_ (by with_reducible assumption) (by with_reducible assumption))) :
  Calls Tryz.prog 93 #[.string a0] w fun e w' => e = .returned (.bool r) ∧ Below w.heap.size w w' := by
 have HE_ := Aside0.mk he_; clear he_; have HB := Aside0.mk (Below.refl w.heap.size w)
 have H : (if (a0.size : Int) ≤ 256 then ((utf8_ValidString.f a0).bind fun t106 => (some t106)) else (some false)) = some r := h
 clear h; by_cases c2 : (a0.size : Int) ≤ 256; rotate_left
 ·
  rw [if_neg c2] at H
  have c2b0 : decide ((a0.size : Int) ≤ 256) = false := decide_eq_false c2
  have c2b1 : decide (a0.size ≤ 256) = false := decide_eq_false (by omega)
  clear c2
  obtain rfl := Option.some.inj H
  go_enter Tryz.func93, Tryz.ntmps93
  go_wp2; go_ret
  exact ⟨eR, bO⟩
 rw [if_pos c2] at H
 have c2b0 : decide ((a0.size : Int) ≤ 256) = true := decide_eq_true c2
 have c2b1 : decide (a0.size ≤ 256) = true := decide_eq_true (by omega)
 clear c2
 replace H := Option.bind_eq_some_iff.mp H
 obtain ⟨t106, A30, H⟩ := H
 replace H : (some t106) = some r := H
 have A3 := Aside0.mk A30; clear A30
 obtain rfl := Option.some.inj H
 go_enter Tryz.func93, Tryz.ntmps93
 go_wp2_with (first | (go_at_call 118; (with_reducible refine (utf8_ValidString.calls a0 t106 _ A3.out).mono ?_); rintro e w4 ⟨rfl, hb⟩; have n0_ := Aside0.mk (below_step bO hb); clear HB; have HB := n0_; clear n0_; (try clear hb); (try clear hb2); (try clear hk); (try clear hi)))
 go_ret
 exact ⟨eR, bO⟩
def attr_wrong.l0 : Nat → List (S33) → Int → Int → Option (Int)
  | 0, _, _, _ => none
  | k + 1, x5, x6, x7 => if x7 < x6 then (if 0 ≤ x7 then (if x7 < (x5.length : Int) then ((attr_sign.f ((rd_T33 x5 x7).f0)).bind fun t109 => (if t109.toList = ([] : List UInt8) then (some 42) else ((attr_Key.f k ((rd_T33 x5 x7).f1)).bind fun t110 => (if t110 = true then ((attr_plain.f ((rd_T33 x5 x7).f2)).bind fun t111 => (if t111 = true then (attr_wrong.l0 k x5 x6 (wrap64 (x7 + 1))) else (some 41))) else (some 40))))) else (none)) else (none)) else (some 0)
def attr_wrong.f (k : Nat) (l0 : List (S33)) : Option (Int) := attr_wrong.l0 k l0 (l0.length : Int) 0
set_option maxHeartbeats 8000000 in
set_option maxRecDepth 100000 in
theorem attr_wrong.calls (k : Nat) (A0 : Option Addr) (c0 : Nat) (l0 : List (S33)) (r : Int) (w : World) (hr0 : Kd.C k33 w A0 l0.length l0) (hc0 : l0.length ≤ c0) (h : attr_wrong.f k l0 = some r) (he_ : EnvW w := by repeat (first | with_reducible assumption | with_reducible exact env_of (by with_reducible assumption) (by with_reducible assumption) | with_reducible exact env_out (by with_reducible assumption) | with_reducible apply env_alloc | with_reducible apply env_drewN | with_reducible apply env_drew | with_reducible refine env_set ?_ (by with_reducible assumption) (by with_reducible assumption))) :
  Calls Tryz.prog 63 #[.slice A0 l0.length c0] w fun e w' => e = .returned (.int .i64 r) ∧ Below w.heap.size w w' := by
 have HE_ := Aside0.mk he_; clear he_; have hu33 := Tryz.underlying33; have HR0 := Aside0.mk hr0; have HC0 := Aside0.mk hc0; clear hr0 hc0; have HB := Aside0.mk (Below.refl w.heap.size w)
 have H : (attr_wrong.l0 k l0 (l0.length : Int) 0) = some r := h
 clear h; have H' := Aside0.mk H; clear H
 go_enter Tryz.func63, Tryz.ntmps63
 go_wp2
 go_loopg [7] k (fun kq v7 w' => ∃ (x7_1 : Int), v7 = .int .i64 x7_1 ∧ Aside0 (attr_wrong.l0 kq l0 (l0.length : Int) x7_1 = some r) ∧ Aside0 (kq ≤ k) ∧ Aside0 (Below w.heap.size w w'))
 case atStart => exact ⟨(0), sR, H', ⟨Nat.le_refl _⟩, ⟨bO⟩⟩
 case round =>
  clear H'
  obtain ⟨x7_1, rfl, HA, HK1, HB⟩ := hrel
  cases gk with
  | zero => exact absurd HA.out (by simp [attr_wrong.l0])
  | succ k1 =>
   have H := HA.out; clear HA
   simp only [attr_wrong.l0] at H
   by_cases c2 : x7_1 < (l0.length : Int); rotate_left
   ·
    rw [if_neg c2] at H
    have c2b0 : decide (x7_1 < (l0.length : Int)) = false := decide_eq_false c2
    clear c2
    obtain rfl := Option.some.inj H
    go_wp2; go_ret
    exact ⟨eR, bO⟩
   rw [if_pos c2] at H
   have c2b0 : decide (x7_1 < (l0.length : Int)) = true := decide_eq_true c2
   clear c2; by_cases c3 : 0 ≤ x7_1; rotate_left
   · rw [if_neg c3] at H; exact absurd H (by simp)
   rw [if_pos c3] at H
   have c3b0 : decide (0 ≤ x7_1) = true := decide_eq_true c3
   clear c3; by_cases c4 : x7_1 < (l0.length : Int); rotate_left
   · rw [if_neg c4] at H; exact absurd H (by simp)
   rw [if_pos c4] at H
   have c4b0 : decide (x7_1 < (l0.length : Int)) = true := decide_eq_true c4
   clear c4
   replace H := Option.bind_eq_some_iff.mp H
   obtain ⟨t109, A50, H⟩ := H
   replace H : (if t109.toList = ([] : List UInt8) then (some 42) else ((attr_Key.f k1 ((rd_T33 l0 x7_1).f1)).bind fun t110 => (if t110 = true then ((attr_plain.f ((rd_T33 l0 x7_1).f2)).bind fun t111 => (if t111 = true then (attr_wrong.l0 k1 l0 (l0.length : Int) (wrap64 (x7_1 + 1))) else (some 41))) else (some 40)))) = some r := H
   have A5 := Aside0.mk A50; clear A50; by_cases c6 : t109.toList = ([] : List UInt8)
   ·
    rw [if_pos c6] at H
    have c6b0 : (t109.toList == ([] : List UInt8)) = true := beq_iff_eq.mpr c6
    have c6b1 : (t109.toList != ([] : List UInt8)) = false := bne_eq_false_iff_eq.mpr c6
    clear c6
    obtain rfl := Option.some.inj H
    have p107 : 0 ≤ (x7_1 : Int) := of_decide_eq_true asm
    have q107 : x7_1 < (l0.length : Int) := of_decide_eq_true asm
    obtain ⟨ad107, e107, hx107_0, hx107_1, hx107_2⟩ := at_T33 HR0.out x7_1 p107 q107
    cases e107
    replace hx107_0 := bC HB hx107_0
    replace hx107_1 := bC HB hx107_1
    replace hx107_2 := bC HB hx107_2
    replace p107 := eq_true p107; replace q107 := eq_true q107
    go_wp2_with (first | ((with_reducible refine gate_dst (N := 4) rfl ?_); refine box_event ?hg (N := 4) ?hd (cs := #[.int .i64 0, .string (⟨#[]⟩ : ByteArray), .string (⟨#[]⟩ : ByteArray)]) (t := 33) ?hr ?_; (case hd => rfl); (case hg => rfl); (case hr => first | (go_simp; done) | (go_simp; rfl)); intro gb108 hg w7 hbox hb; have n0_ := Aside0.mk (below_step bO hb); have n1_ := Aside0.mk (hbox); have n2_ := Aside0.mk ((by rw [hg]; exact (below_size bO) : w.heap.size ≤ gb108)); have n3_ := Aside0.mk ((by rw [hg]; exact (below_size bO) : w.heap.size ≤ gb108)); clear HB; have HB := n0_; have BK108 := n1_; have GW108 := n2_; have GE108 := n3_; clear n0_ n1_ n2_ n3_; clear hb hbox hg; have hcz8_0 : w7.cell? ⟨gb108, 0, none⟩ = some (.int .i64 0) := (blk_cell BK108.out 0).trans rfl; have hcz8_1 : w7.cell? ⟨gb108, 1, none⟩ = some (.string (⟨#[]⟩ : ByteArray)) := (blk_cell BK108.out 1).trans rfl; have hcz8_2 : w7.cell? ⟨gb108, 2, none⟩ = some (.string (⟨#[]⟩ : ByteArray)) := (blk_cell BK108.out 2).trans rfl; have hfz8_0 := blk_frozen BK108.out 0; have hfz8_1 := blk_frozen BK108.out 1; have hfz8_2 := blk_frozen BK108.out 2) | ((with_reducible refine gate_callee (f := 92) rfl ?_); refine goesL_ (some 14) rfl rfl Tryz.func92 (by kernel_rfl) rfl #[.int .i64 ((rd_T33 l0 x7_1).f0)] rfl lR ?_; (with_reducible refine (attr_sign.calls ((rd_T33 l0 x7_1).f0) t109 _ A5.out).mono ?_); rintro e w' ⟨rfl, ⟨nd, rfl⟩⟩; refine ⟨_, rfl, ?_⟩))
    go_ret
    exact ⟨eR, bO⟩
   rw [if_neg c6] at H
   have c6b0 : (t109.toList == ([] : List UInt8)) = false := beq_eq_false_iff_ne.mpr c6
   have c6b1 : (t109.toList != ([] : List UInt8)) = true := bne_iff_ne.mpr c6
   replace H := Option.bind_eq_some_iff.mp H
   obtain ⟨t110, A90, H⟩ := H
   replace H : (if t110 = true then ((attr_plain.f ((rd_T33 l0 x7_1).f2)).bind fun t111 => (if t111 = true then (attr_wrong.l0 k1 l0 (l0.length : Int) (wrap64 (x7_1 + 1))) else (some 41))) else (some 40)) = some r := H
   have A9 := Aside0.mk A90; clear A90; by_cases c10 : t110 = true; rotate_left
   ·
    replace c10 := Bool.eq_false_iff.mpr c10
    subst c10
    have H1 : (some 40) = some r := by rw [if_neg (show ¬ (false = true) by decide)] at H; exact H
    clear H; have H := H1; clear H1
    obtain rfl := Option.some.inj H
    have p107 : 0 ≤ (x7_1 : Int) := of_decide_eq_true asm
    have q107 : x7_1 < (l0.length : Int) := of_decide_eq_true asm
    obtain ⟨ad107, e107, hx107_0, hx107_1, hx107_2⟩ := at_T33 HR0.out x7_1 p107 q107
    cases e107
    replace hx107_0 := bC HB hx107_0
    replace hx107_1 := bC HB hx107_1
    replace hx107_2 := bC HB hx107_2
    replace p107 := eq_true p107; replace q107 := eq_true q107
    go_wp2_with (first | ((with_reducible refine gate_dst (N := 4) rfl ?_); refine box_event ?hg (N := 4) ?hd (cs := #[.int .i64 0, .string (⟨#[]⟩ : ByteArray), .string (⟨#[]⟩ : ByteArray)]) (t := 33) ?hr ?_; (case hd => rfl); (case hg => rfl); (case hr => first | (go_simp; done) | (go_simp; rfl)); intro gb108 hg w19 hbox hb; have n0_ := Aside0.mk (below_step bO hb); have n1_ := Aside0.mk (hbox); have n2_ := Aside0.mk ((by rw [hg]; exact (below_size bO) : w.heap.size ≤ gb108)); have n3_ := Aside0.mk ((by rw [hg]; exact (below_size bO) : w.heap.size ≤ gb108)); clear HB; have HB := n0_; have BK108 := n1_; have GW108 := n2_; have GE108 := n3_; clear n0_ n1_ n2_ n3_; clear hb hbox hg; have hcz20_0 : w19.cell? ⟨gb108, 0, none⟩ = some (.int .i64 0) := (blk_cell BK108.out 0).trans rfl; have hcz20_1 : w19.cell? ⟨gb108, 1, none⟩ = some (.string (⟨#[]⟩ : ByteArray)) := (blk_cell BK108.out 1).trans rfl; have hcz20_2 : w19.cell? ⟨gb108, 2, none⟩ = some (.string (⟨#[]⟩ : ByteArray)) := (blk_cell BK108.out 2).trans rfl; have hfz20_0 := blk_frozen BK108.out 0; have hfz20_1 := blk_frozen BK108.out 1; have hfz20_2 := blk_frozen BK108.out 2) | ((with_reducible refine gate_callee (f := 92) rfl ?_); refine goesL_ (some 14) rfl rfl Tryz.func92 (by kernel_rfl) rfl #[.int .i64 ((rd_T33 l0 x7_1).f0)] rfl lR ?_; (with_reducible refine (attr_sign.calls ((rd_T33 l0 x7_1).f0) t109 _ A5.out).mono ?_); rintro e w' ⟨rfl, ⟨nd, rfl⟩⟩; refine ⟨_, rfl, ?_⟩) | ((with_reducible refine gate_callee (f := 52) rfl ?_); refine goesL_ (some 19) rfl rfl Tryz.func52 (by kernel_rfl) rfl #[.string ((rd_T33 l0 x7_1).f1)] rfl lR ?_; (with_reducible refine (attr_Key.calls k1 ((rd_T33 l0 x7_1).f1) false _ A9.out).mono ?_); rintro e w' ⟨rfl, ⟨nd, rfl⟩⟩; refine ⟨_, rfl, ?_⟩))
    go_ret
    exact ⟨eR, bO⟩
   subst c10
   have H1 : ((attr_plain.f ((rd_T33 l0 x7_1).f2)).bind fun t111 => (if t111 = true then (attr_wrong.l0 k1 l0 (l0.length : Int) (wrap64 (x7_1 + 1))) else (some 41))) = some r := by rw [if_pos rfl] at H; exact H
   clear H; have H := H1; clear H1
   replace H := Option.bind_eq_some_iff.mp H
   obtain ⟨t111, A110, H⟩ := H
   replace H : (if t111 = true then (attr_wrong.l0 k1 l0 (l0.length : Int) (wrap64 (x7_1 + 1))) else (some 41)) = some r := H
   have A11 := Aside0.mk A110; clear A110; by_cases c12 : t111 = true; rotate_left
   ·
    replace c12 := Bool.eq_false_iff.mpr c12
    subst c12
    have H1 : (some 41) = some r := by rw [if_neg (show ¬ (false = true) by decide)] at H; exact H
    clear H; have H := H1; clear H1
    obtain rfl := Option.some.inj H
    have p107 : 0 ≤ (x7_1 : Int) := of_decide_eq_true asm
    have q107 : x7_1 < (l0.length : Int) := of_decide_eq_true asm
    obtain ⟨ad107, e107, hx107_0, hx107_1, hx107_2⟩ := at_T33 HR0.out x7_1 p107 q107
    cases e107
    replace hx107_0 := bC HB hx107_0
    replace hx107_1 := bC HB hx107_1
    replace hx107_2 := bC HB hx107_2
    replace p107 := eq_true p107; replace q107 := eq_true q107
    go_wp2_with (first | ((with_reducible refine gate_dst (N := 4) rfl ?_); refine box_event ?hg (N := 4) ?hd (cs := #[.int .i64 0, .string (⟨#[]⟩ : ByteArray), .string (⟨#[]⟩ : ByteArray)]) (t := 33) ?hr ?_; (case hd => rfl); (case hg => rfl); (case hr => first | (go_simp; done) | (go_simp; rfl)); intro gb108 hg w16 hbox hb; have n0_ := Aside0.mk (below_step bO hb); have n1_ := Aside0.mk (hbox); have n2_ := Aside0.mk ((by rw [hg]; exact (below_size bO) : w.heap.size ≤ gb108)); have n3_ := Aside0.mk ((by rw [hg]; exact (below_size bO) : w.heap.size ≤ gb108)); clear HB; have HB := n0_; have BK108 := n1_; have GW108 := n2_; have GE108 := n3_; clear n0_ n1_ n2_ n3_; clear hb hbox hg; have hcz17_0 : w16.cell? ⟨gb108, 0, none⟩ = some (.int .i64 0) := (blk_cell BK108.out 0).trans rfl; have hcz17_1 : w16.cell? ⟨gb108, 1, none⟩ = some (.string (⟨#[]⟩ : ByteArray)) := (blk_cell BK108.out 1).trans rfl; have hcz17_2 : w16.cell? ⟨gb108, 2, none⟩ = some (.string (⟨#[]⟩ : ByteArray)) := (blk_cell BK108.out 2).trans rfl; have hfz17_0 := blk_frozen BK108.out 0; have hfz17_1 := blk_frozen BK108.out 1; have hfz17_2 := blk_frozen BK108.out 2) | ((with_reducible refine gate_callee (f := 92) rfl ?_); refine goesL_ (some 14) rfl rfl Tryz.func92 (by kernel_rfl) rfl #[.int .i64 ((rd_T33 l0 x7_1).f0)] rfl lR ?_; (with_reducible refine (attr_sign.calls ((rd_T33 l0 x7_1).f0) t109 _ A5.out).mono ?_); rintro e w' ⟨rfl, ⟨nd, rfl⟩⟩; refine ⟨_, rfl, ?_⟩) | ((with_reducible refine gate_callee (f := 52) rfl ?_); refine goesL_ (some 19) rfl rfl Tryz.func52 (by kernel_rfl) rfl #[.string ((rd_T33 l0 x7_1).f1)] rfl lR ?_; (with_reducible refine (attr_Key.calls k1 ((rd_T33 l0 x7_1).f1) true _ A9.out).mono ?_); rintro e w' ⟨rfl, ⟨nd, rfl⟩⟩; refine ⟨_, rfl, ?_⟩) | ((with_reducible refine gate_callee (f := 93) rfl ?_); refine goesL_ (some 24) rfl rfl Tryz.func93 (by kernel_rfl) rfl #[.string ((rd_T33 l0 x7_1).f2)] rfl lR ?_; (with_reducible refine (attr_plain.calls ((rd_T33 l0 x7_1).f2) false _ A11.out).mono ?_); rintro e w18 ⟨rfl, hb⟩; refine ⟨_, rfl, ?_⟩; have n0_ := Aside0.mk (blk_below (g := gb108) (o := .cells #[.int .i64 ((rd_T33 l0 x7_1).f0), .string ((rd_T33 l0 x7_1).f1), .string ((rd_T33 l0 x7_1).f2)] 33 (0, 0)) (by (with_reducible repeat (first | refine blk_drewN ?_ _ | refine blk_drew ?_ | refine blk_alloc ?_ _)); refine blk_put (cs := #[.int .i64 ((rd_T33 l0 x7_1).f0), .string ((rd_T33 l0 x7_1).f1), .string (⟨#[]⟩ : ByteArray)]) ?_ 2 _ rfl; (with_reducible repeat (first | refine blk_drewN ?_ _ | refine blk_drew ?_ | refine blk_alloc ?_ _)); refine blk_put (cs := #[.int .i64 ((rd_T33 l0 x7_1).f0), .string (⟨#[]⟩ : ByteArray), .string (⟨#[]⟩ : ByteArray)]) ?_ 1 _ rfl; (with_reducible repeat (first | refine blk_drewN ?_ _ | refine blk_drew ?_ | refine blk_alloc ?_ _)); refine blk_put (cs := #[.int .i64 0, .string (⟨#[]⟩ : ByteArray), .string (⟨#[]⟩ : ByteArray)]) ?_ 0 _ rfl; (with_reducible repeat (first | refine blk_drewN ?_ _ | refine blk_drew ?_ | refine blk_alloc ?_ _)); exact BK108.out) hb); have n1_ := Aside0.mk (below_step bO hb); clear BK108; clear HB; have BK108 := n0_; have HB := n1_; clear n0_ n1_; (try clear hb); (try clear hb2); (try clear hk); (try clear hi)))
    go_ret
    exact ⟨eR, bO⟩
   subst c12
   have H1 : (attr_wrong.l0 k1 l0 (l0.length : Int) (wrap64 (x7_1 + 1))) = some r := by rw [if_pos rfl] at H; exact H
   clear H; have H := H1; clear H1; have H' := Aside0.mk H; clear H
   have p107 : 0 ≤ (x7_1 : Int) := of_decide_eq_true asm
   have q107 : x7_1 < (l0.length : Int) := of_decide_eq_true asm
   obtain ⟨ad107, e107, hx107_0, hx107_1, hx107_2⟩ := at_T33 HR0.out x7_1 p107 q107
   cases e107
   replace hx107_0 := bC HB hx107_0
   replace hx107_1 := bC HB hx107_1
   replace hx107_2 := bC HB hx107_2
   replace p107 := eq_true p107; replace q107 := eq_true q107
   go_wp2_with (first | ((with_reducible refine gate_dst (N := 4) rfl ?_); refine box_event ?hg (N := 4) ?hd (cs := #[.int .i64 0, .string (⟨#[]⟩ : ByteArray), .string (⟨#[]⟩ : ByteArray)]) (t := 33) ?hr ?_; (case hd => rfl); (case hg => rfl); (case hr => first | (go_simp; done) | (go_simp; rfl)); intro gb108 hg w13 hbox hb; have n0_ := Aside0.mk (below_step bO hb); have n1_ := Aside0.mk (hbox); have n2_ := Aside0.mk ((by rw [hg]; exact (below_size bO) : w.heap.size ≤ gb108)); have n3_ := Aside0.mk ((by rw [hg]; exact (below_size bO) : w.heap.size ≤ gb108)); clear HB; have HB := n0_; have BK108 := n1_; have GW108 := n2_; have GE108 := n3_; clear n0_ n1_ n2_ n3_; clear hb hbox hg; have hcz14_0 : w13.cell? ⟨gb108, 0, none⟩ = some (.int .i64 0) := (blk_cell BK108.out 0).trans rfl; have hcz14_1 : w13.cell? ⟨gb108, 1, none⟩ = some (.string (⟨#[]⟩ : ByteArray)) := (blk_cell BK108.out 1).trans rfl; have hcz14_2 : w13.cell? ⟨gb108, 2, none⟩ = some (.string (⟨#[]⟩ : ByteArray)) := (blk_cell BK108.out 2).trans rfl; have hfz14_0 := blk_frozen BK108.out 0; have hfz14_1 := blk_frozen BK108.out 1; have hfz14_2 := blk_frozen BK108.out 2) | ((with_reducible refine gate_callee (f := 92) rfl ?_); refine goesL_ (some 14) rfl rfl Tryz.func92 (by kernel_rfl) rfl #[.int .i64 ((rd_T33 l0 x7_1).f0)] rfl lR ?_; (with_reducible refine (attr_sign.calls ((rd_T33 l0 x7_1).f0) t109 _ A5.out).mono ?_); rintro e w' ⟨rfl, ⟨nd, rfl⟩⟩; refine ⟨_, rfl, ?_⟩) | ((with_reducible refine gate_callee (f := 52) rfl ?_); refine goesL_ (some 19) rfl rfl Tryz.func52 (by kernel_rfl) rfl #[.string ((rd_T33 l0 x7_1).f1)] rfl lR ?_; (with_reducible refine (attr_Key.calls k1 ((rd_T33 l0 x7_1).f1) true _ A9.out).mono ?_); rintro e w' ⟨rfl, ⟨nd, rfl⟩⟩; refine ⟨_, rfl, ?_⟩) | ((with_reducible refine gate_callee (f := 93) rfl ?_); refine goesL_ (some 24) rfl rfl Tryz.func93 (by kernel_rfl) rfl #[.string ((rd_T33 l0 x7_1).f2)] rfl lR ?_; (with_reducible refine (attr_plain.calls ((rd_T33 l0 x7_1).f2) true _ A11.out).mono ?_); rintro e w15 ⟨rfl, hb⟩; refine ⟨_, rfl, ?_⟩; have n0_ := Aside0.mk (blk_below (g := gb108) (o := .cells #[.int .i64 ((rd_T33 l0 x7_1).f0), .string ((rd_T33 l0 x7_1).f1), .string ((rd_T33 l0 x7_1).f2)] 33 (0, 0)) (by (with_reducible repeat (first | refine blk_drewN ?_ _ | refine blk_drew ?_ | refine blk_alloc ?_ _)); refine blk_put (cs := #[.int .i64 ((rd_T33 l0 x7_1).f0), .string ((rd_T33 l0 x7_1).f1), .string (⟨#[]⟩ : ByteArray)]) ?_ 2 _ rfl; (with_reducible repeat (first | refine blk_drewN ?_ _ | refine blk_drew ?_ | refine blk_alloc ?_ _)); refine blk_put (cs := #[.int .i64 ((rd_T33 l0 x7_1).f0), .string (⟨#[]⟩ : ByteArray), .string (⟨#[]⟩ : ByteArray)]) ?_ 1 _ rfl; (with_reducible repeat (first | refine blk_drewN ?_ _ | refine blk_drew ?_ | refine blk_alloc ?_ _)); refine blk_put (cs := #[.int .i64 0, .string (⟨#[]⟩ : ByteArray), .string (⟨#[]⟩ : ByteArray)]) ?_ 0 _ rfl; (with_reducible repeat (first | refine blk_drewN ?_ _ | refine blk_drew ?_ | refine blk_alloc ?_ _)); exact BK108.out) hb); have n1_ := Aside0.mk (below_step bO hb); clear BK108; clear HB; have BK108 := n0_; have HB := n1_; clear n0_ n1_; (try clear hb); (try clear hb2); (try clear hk); (try clear hi)))
   go_roundg k1
   case measure => have := HK1.out; omega
   case rel => exact ⟨(wrap64 (x7_1 + 1)), sR, H', ⟨by have := HK1.out; omega⟩, ⟨bO⟩⟩
def attr_RightMatch.f (k : Nat) (l0 : List (S33)) : Option (Int) := if (l0.length : Int) > 8 then (some 7) else ((attr_wrong.f k l0).bind fun t112 => (some t112))
set_option maxHeartbeats 8000000 in
set_option maxRecDepth 100000 in
theorem attr_RightMatch.calls (k : Nat) (A0 : Option Addr) (c0 : Nat) (l0 : List (S33)) (r : Int) (w : World) (hr0 : Kd.C k33 w A0 l0.length l0) (hc0 : l0.length ≤ c0) (h : attr_RightMatch.f k l0 = some r) (he_ : EnvW w := by repeat (first | with_reducible assumption | with_reducible exact env_of (by with_reducible assumption) (by with_reducible assumption) | with_reducible exact env_out (by with_reducible assumption) | with_reducible apply env_alloc | with_reducible apply env_drewN | with_reducible apply env_drew | with_reducible refine env_set ?_ (by with_reducible assumption) (by with_reducible assumption))) :
  Calls Tryz.prog 49 #[.slice A0 l0.length c0] w fun e w' => e = .returned (.int .i64 r) ∧ Below w.heap.size w w' := by
 have HE_ := Aside0.mk he_; clear he_; have HR0 := Aside0.mk hr0; have HC0 := Aside0.mk hc0; clear hr0 hc0; have HB := Aside0.mk (Below.refl w.heap.size w)
 have H : (if (l0.length : Int) > 8 then (some 7) else ((attr_wrong.f k l0).bind fun t112 => (some t112))) = some r := h
 clear h; by_cases c2 : (l0.length : Int) > 8
 ·
  rw [if_pos c2] at H
  have c2b0 : decide (8 < (l0.length : Int)) = true := decide_eq_true c2
  have c2b1 : decide (8 < l0.length) = true := decide_eq_true (by omega)
  clear c2
  obtain rfl := Option.some.inj H
  go_enter Tryz.func49, Tryz.ntmps49
  go_wp2; go_ret
  exact ⟨eR, bO⟩
 rw [if_neg c2] at H
 have c2b0 : decide (8 < (l0.length : Int)) = false := decide_eq_false c2
 have c2b1 : decide (8 < l0.length) = false := decide_eq_false (by omega)
 clear c2
 replace H := Option.bind_eq_some_iff.mp H
 obtain ⟨t112, A30, H⟩ := H
 replace H : (some t112) = some r := H
 have A3 := Aside0.mk A30; clear A30
 obtain rfl := Option.some.inj H
 go_enter Tryz.func49, Tryz.ntmps49
 go_wp2_with (first | ((with_reducible refine gate_callee (f := 63) rfl ?_); refine goesL_ (some 7) rfl rfl Tryz.func63 (by kernel_rfl) rfl #[.slice A0 l0.length c0] rfl lR ?_; (with_reducible refine (attr_wrong.calls k _ _ l0 t112 _ ?side1 ?side2 A3.out).mono ?_); (case side1 => repeat (first | exact HR0.out | (with_reducible refine Kd.C_alloc ?_ _) | (with_reducible refine Kd.C_drewN ?_ _) | (with_reducible refine Kd.C_drew ?_))); (case side2 => exact HC0.out); rintro e w4 ⟨rfl, hb⟩; refine ⟨_, rfl, ?_⟩; have n0_ := Aside0.mk (below_step bO hb); clear HB; have HB := n0_; clear n0_; (try clear hb); (try clear hb2); (try clear hk); (try clear hi)))
 go_ret
 exact ⟨eR, bO⟩
def policy_Right_1.f (k : Nat) (a0 : ByteArray) : Option (Bool) := (attr_Key.f k a0).bind fun t113 => (some (!t113))
set_option maxHeartbeats 8000000 in
set_option maxRecDepth 100000 in
theorem policy_Right_1.calls (k : Nat) (a0 : ByteArray) (r : Bool) (w : World) (h : policy_Right_1.f k a0 = some r) :
  Calls Tryz.prog 51 #[.string a0] w fun e w' => e = .returned (.bool r) ∧ Drawn0 w w' := by
 have H : ((attr_Key.f k a0).bind fun t113 => (some (!t113))) = some r := h
 clear h
 replace H := Option.bind_eq_some_iff.mp H
 obtain ⟨t113, A20, H⟩ := H
 replace H : (some (!t113)) = some r := H
 have A2 := Aside0.mk A20; clear A20
 obtain rfl := Option.some.inj H
 go_enter Tryz.func51, Tryz.ntmps51
 go_wp2_with (first | ((with_reducible refine gate_callee (f := 52) rfl ?_); refine goesL_ (some 4) rfl rfl Tryz.func52 (by kernel_rfl) rfl #[.string a0] rfl lR ?_; (with_reducible refine (attr_Key.calls k a0 t113 _ A2.out).mono ?_); rintro e w' ⟨rfl, ⟨nd, rfl⟩⟩; refine ⟨_, rfl, ?_⟩))
 go_ret
 exact ⟨by first | rfl | (simp; done) | (simp [*]; done), by repeat (first | exact Drawn0.refl _ | apply Drawn0.step)⟩
def slices_IndexFunc_string_string.l0 : Nat → List ByteArray → Int → Int → Option (Int)
  | 0, _, _, _ => none
  | k + 1, x0, x7, x8 => if x8 < x7 then (if 0 ≤ x8 then (if x8 < (x0.length : Int) then ((policy_Right_1.f k (rdOf ByteArray.empty x0 x8)).bind fun t115 => (if t115 = true then (some x8) else (slices_IndexFunc_string_string.l0 k x0 x7 (wrap64 (x8 + 1))))) else (none)) else (none)) else (some (-1))
def slices_IndexFunc_string_string.f (k : Nat) (l0 : List ByteArray)  : Option (Int) := slices_IndexFunc_string_string.l0 k l0 (l0.length : Int) 0
set_option maxHeartbeats 8000000 in
set_option maxRecDepth 100000 in
theorem slices_IndexFunc_string_string.calls (k : Nat) (A0 : Option Addr) (c0 : Nat) (l0 : List ByteArray)  (r : Int) (w : World) (hr0 : Kd.C Kd.string w A0 l0.length l0) (hc0 : l0.length ≤ c0) (h : slices_IndexFunc_string_string.f k l0 = some r) :
  Calls Tryz.prog 84 #[.slice A0 l0.length c0, .func (.func 51) #[] #[]] w fun e w' => e = .returned (.int .i64 r) ∧ Drawn0 w w' := by
 have HR0 := Aside0.mk hr0; have HC0 := Aside0.mk hc0; clear hr0 hc0
 have H : (slices_IndexFunc_string_string.l0 k l0 (l0.length : Int) 0) = some r := h
 clear h; have H' := Aside0.mk H; clear H
 go_enter Tryz.func84, Tryz.ntmps84
 go_wp2
 go_loopg [8] k (fun kq v8 w' => ∃ (x8_1 : Int), v8 = .int .i64 x8_1 ∧ Aside0 (slices_IndexFunc_string_string.l0 kq l0 (l0.length : Int) x8_1 = some r) ∧ Aside0 (kq ≤ k) ∧ Drawn0 w w')
 case atStart => exact ⟨(0), sR, H', ⟨Nat.le_refl _⟩, by repeat (first | exact Drawn0.refl _ | apply Drawn0.step)⟩
 case round =>
  clear H'; (try clear p2)
  obtain ⟨x8_1, rfl, HA, HK1, ⟨m1, rfl⟩⟩ := hrel
  cases gk with
  | zero => exact absurd HA.out (by simp [slices_IndexFunc_string_string.l0])
  | succ k1 =>
   have H := HA.out; clear HA
   simp only [slices_IndexFunc_string_string.l0] at H
   by_cases c3 : x8_1 < (l0.length : Int); rotate_left
   ·
    rw [if_neg c3] at H
    have c3b0 : decide (x8_1 < (l0.length : Int)) = false := decide_eq_false c3
    clear c3
    obtain rfl := Option.some.inj H
    go_wp2; go_ret
    exact ⟨by first | rfl | (simp; done) | (simp [*]; done), by repeat (first | exact Drawn0.refl _ | apply Drawn0.step)⟩
   rw [if_pos c3] at H
   have c3b0 : decide (x8_1 < (l0.length : Int)) = true := decide_eq_true c3
   clear c3; by_cases c4 : 0 ≤ x8_1; rotate_left
   · rw [if_neg c4] at H; exact absurd H (by simp)
   rw [if_pos c4] at H
   have c4b0 : decide (0 ≤ x8_1) = true := decide_eq_true c4
   clear c4; by_cases c5 : x8_1 < (l0.length : Int); rotate_left
   · rw [if_neg c5] at H; exact absurd H (by simp)
   rw [if_pos c5] at H
   have c5b0 : decide (x8_1 < (l0.length : Int)) = true := decide_eq_true c5
   clear c5
   replace H := Option.bind_eq_some_iff.mp H
   obtain ⟨t115, A60, H⟩ := H
   replace H : (if t115 = true then (some x8_1) else (slices_IndexFunc_string_string.l0 k1 l0 (l0.length : Int) (wrap64 (x8_1 + 1)))) = some r := H
   have A6 := Aside0.mk A60; clear A60; by_cases c7 : t115 = true
   ·
    subst c7
    have H1 : (some x8_1) = some r := by rw [if_pos rfl] at H; exact H
    clear H; have H := H1; clear H1
    obtain rfl := Option.some.inj H
    have p114 : 0 ≤ (x8_1 : Int) := of_decide_eq_true asm
    have q114 : x8_1 < (l0.length : Int) := of_decide_eq_true asm
    obtain ⟨ad114, e114, hx114_0⟩ := Kd.at_string HR0.out x8_1 p114 q114
    cases e114; replace p114 := eq_true p114; replace q114 := eq_true q114
    go_wp2_with (first | (go_at_call 51; (with_reducible refine (policy_Right_1.calls k1 (rdOf ByteArray.empty l0 x8_1) true _ A6.out).mono ?_); rintro e w' ⟨rfl, ⟨nd, rfl⟩⟩))
    go_ret
    exact ⟨by first | rfl | (simp; done) | (simp [*]; done), by repeat (first | exact Drawn0.refl _ | apply Drawn0.step)⟩
   replace c7 := Bool.eq_false_iff.mpr c7
   subst c7
   have H1 : (slices_IndexFunc_string_string.l0 k1 l0 (l0.length : Int) (wrap64 (x8_1 + 1))) = some r := by rw [if_neg (show ¬ (false = true) by decide)] at H; exact H
   clear H; have H := H1; clear H1; have H' := Aside0.mk H; clear H
   have p114 : 0 ≤ (x8_1 : Int) := of_decide_eq_true asm
   have q114 : x8_1 < (l0.length : Int) := of_decide_eq_true asm
   obtain ⟨ad114, e114, hx114_0⟩ := Kd.at_string HR0.out x8_1 p114 q114
   cases e114; replace p114 := eq_true p114; replace q114 := eq_true q114
   go_wp2_with (first | (go_at_call 51; (with_reducible refine (policy_Right_1.calls k1 (rdOf ByteArray.empty l0 x8_1) false _ A6.out).mono ?_); rintro e w' ⟨rfl, ⟨nd, rfl⟩⟩))
   go_roundg k1
   case measure => have := HK1.out; omega
   case rel => exact ⟨(wrap64 (x8_1 + 1)), sR, H', ⟨by have := HK1.out; omega⟩, by repeat (first | exact Drawn0.refl _ | apply Drawn0.step)⟩
def slices_ContainsFunc_string_string.f (k : Nat) (l0 : List ByteArray)  : Option (Bool) := (slices_IndexFunc_string_string.f k l0).bind fun t116 => (some (decide (t116 ≥ 0)))
set_option maxHeartbeats 8000000 in
set_option maxRecDepth 100000 in
theorem slices_ContainsFunc_string_string.calls (k : Nat) (A0 : Option Addr) (c0 : Nat) (l0 : List ByteArray)  (r : Bool) (w : World) (hr0 : Kd.C Kd.string w A0 l0.length l0) (hc0 : l0.length ≤ c0) (h : slices_ContainsFunc_string_string.f k l0 = some r) :
  Calls Tryz.prog 50 #[.slice A0 l0.length c0, .func (.func 51) #[] #[]] w fun e w' => e = .returned (.bool r) ∧ Drawn0 w w' := by
 have HR0 := Aside0.mk hr0; have HC0 := Aside0.mk hc0; clear hr0 hc0
 have H : ((slices_IndexFunc_string_string.f k l0).bind fun t116 => (some (decide (t116 ≥ 0)))) = some r := h
 clear h
 replace H := Option.bind_eq_some_iff.mp H
 obtain ⟨t116, A30, H⟩ := H
 replace H : (some (decide (t116 ≥ 0))) = some r := H
 have A3 := Aside0.mk A30; clear A30
 obtain rfl := Option.some.inj H
 go_enter Tryz.func50, Tryz.ntmps50
 go_wp2_with (first | ((with_reducible refine gate_callee (f := 84) rfl ?_); refine goesL_ (some 7) rfl rfl Tryz.func84 (by kernel_rfl) rfl #[.slice A0 l0.length c0, .func (.func 51) #[] #[]] rfl lR ?_; (with_reducible refine (slices_IndexFunc_string_string.calls k _ _ l0  t116 _ ?side1 ?side2 A3.out).mono ?_); (case side1 => repeat (first | exact HR0.out | (with_reducible refine Kd.C_alloc ?_ _) | (with_reducible refine Kd.C_drewN ?_ _) | (with_reducible refine Kd.C_drew ?_))); (case side2 => exact HC0.out); rintro e w' ⟨rfl, ⟨nd, rfl⟩⟩; refine ⟨_, rfl, ?_⟩))
 go_ret
 exact ⟨by first | rfl | (simp; done) | (simp [*]; done), by repeat (first | exact Drawn0.refl _ | apply Drawn0.step)⟩
end Go.Proofs.YtkedidjjhhjdbaaGreatDoor.Pr
end
section
namespace Go.Proofs.YtkedidjjhhjdbaaGreatDoor.Pr
open Go.RowKit Go.Proofs.YtkedidjjhhjdbaaGreatDoorW.PrintWords Go.Proofs.YtkedidjjhhjdbaaGreatDoorW.PrintLast Go.Proofs.YtkedidjjhhjdbaaGreatDoorW.PrintMore
attribute [local go_sem] max2_int min2_int max_two min_two max_three min_three max_four min_four strGtr strLeq strGeq
set_option linter.unusedVariables false
set_option linter.unusedSimpArgs false
mutual
def belfryref02_Utf8.l0 : Nat → ByteArray → Int → Option (Bool)
  | 0, _, _ => none
  | k + 1, x0, x3 => if x3 < (x0.size : Int) then (if 0 ≤ x3 then (if (bt x0 x3) < 128 then (belfryref02_Utf8.j4 k x0 x3 0 128 191) else (if (bt x0 x3) ≥ 194 then (belfryref02_Utf8.j1 k x0 x3 (bt x0 x3) 128 191 (decide ((bt x0 x3) ≤ 223))) else (belfryref02_Utf8.j1 k x0 x3 (bt x0 x3) 128 191 false))) else (none)) else (some true)
def belfryref02_Utf8.j4 : Nat → ByteArray → Int → Int → Int → Int → Option (Bool)
  | 0, _, _, _, _, _ => none
  | k + 1, x0, x3, x5, x6, x7 => if x5 ≥ (wrap64 ((x0.size : Int) - x3)) then (some false) else (belfryref02_Utf8.l1 k x0 x3 x5 x6 x7 1)
def belfryref02_Utf8.l1 : Nat → ByteArray → Int → Int → Int → Int → Int → Option (Bool)
  | 0, _, _, _, _, _, _ => none
  | k + 1, x0, x3, x5, x6, x7, x8 => if x8 ≤ x5 then (if 0 ≤ (wrap64 (x3 + x8)) then (if (wrap64 (x3 + x8)) < (x0.size : Int) then (if (bt x0 (wrap64 (x3 + x8))) < x6 then (some false) else (if (bt x0 (wrap64 (x3 + x8))) > x7 then (some false) else (belfryref02_Utf8.l1 k x0 x3 x5 128 191 (wrap64 (x8 + 1))))) else (none)) else (none)) else (belfryref02_Utf8.l0 k x0 (wrap64 ((wrap64 (x3 + x5)) + 1)))
def belfryref02_Utf8.j1 : Nat → ByteArray → Int → Int → Int → Int → Bool → Option (Bool)
  | 0, _, _, _, _, _, _ => none
  | k + 1, x0, x3, x4, x6, x7, x19 => if x19 = true then (belfryref02_Utf8.j4 k x0 x3 1 x6 x7) else (if x4 ≥ 224 then (belfryref02_Utf8.j2 k x0 x3 x4 x6 x7 (decide (x4 ≤ 239))) else (belfryref02_Utf8.j2 k x0 x3 x4 x6 x7 false))
def belfryref02_Utf8.j2 : Nat → ByteArray → Int → Int → Int → Int → Bool → Option (Bool)
  | 0, _, _, _, _, _, _ => none
  | k + 1, x0, x3, x4, x6, x7, x26 => if x26 = true then (if x4 = 224 then (if x4 = 237 then (belfryref02_Utf8.j4 k x0 x3 2 160 159) else (belfryref02_Utf8.j4 k x0 x3 2 160 x7)) else (if x4 = 237 then (belfryref02_Utf8.j4 k x0 x3 2 x6 159) else (belfryref02_Utf8.j4 k x0 x3 2 x6 x7))) else (if x4 ≥ 240 then (belfryref02_Utf8.j3 k x0 x3 x4 x6 x7 (decide (x4 ≤ 244))) else (belfryref02_Utf8.j3 k x0 x3 x4 x6 x7 false))
def belfryref02_Utf8.j3 : Nat → ByteArray → Int → Int → Int → Int → Bool → Option (Bool)
  | 0, _, _, _, _, _, _ => none
  | k + 1, x0, x3, x4, x6, x7, x37 => if x37 = true then (if x4 = 240 then (if x4 = 244 then (belfryref02_Utf8.j4 k x0 x3 3 144 143) else (belfryref02_Utf8.j4 k x0 x3 3 144 x7)) else (if x4 = 244 then (belfryref02_Utf8.j4 k x0 x3 3 x6 143) else (belfryref02_Utf8.j4 k x0 x3 3 x6 x7))) else (some false)
end
def belfryref02_Utf8.f (k : Nat) (a0 : ByteArray) : Option (Bool) := belfryref02_Utf8.l0 k a0 0
set_option maxHeartbeats 8000000 in
set_option maxRecDepth 100000 in
theorem belfryref02_Utf8.calls (k : Nat) (a0 : ByteArray) (r : Bool) (w : World) (h : belfryref02_Utf8.f k a0 = some r) :
  Calls Tryz.prog 130 #[.string a0] w fun e w' => e = .returned (.bool r) ∧ Drawn0 w w' := by
 have H : (belfryref02_Utf8.l0 k a0 0) = some r := h
 clear h; have H' := Aside0.mk H; clear H
 go_enter Tryz.func130, Tryz.ntmps130
 go_wp2
 go_loopg [3] k (fun kq v3 w' => ∃ (x3_1 : Int), v3 = .int .i64 x3_1 ∧ Aside0 (belfryref02_Utf8.l0 kq a0 x3_1 = some r) ∧ Aside0 (kq ≤ k) ∧ Drawn0 w w')
 case atStart => exact ⟨(0), sR, H', ⟨Nat.le_refl _⟩, by repeat (first | exact Drawn0.refl _ | apply Drawn0.step)⟩
 case round =>
  clear H'; (try clear c1)
  obtain ⟨x3_1, rfl, HA, HK1, ⟨m1, rfl⟩⟩ := hrel
  cases gk with
  | zero => exact absurd HA.out (by simp [belfryref02_Utf8.l0])
  | succ k1 =>
   have H := HA.out; clear HA
   simp only [belfryref02_Utf8.l0] at H
   by_cases c2 : x3_1 < (a0.size : Int); rotate_left
   ·
    rw [if_neg c2] at H
    have c2b0 : decide (x3_1 < (a0.size : Int)) = false := decide_eq_false c2
    clear c2
    obtain rfl := Option.some.inj H
    go_wp2; go_ret
    exact ⟨by first | rfl | (simp; done) | (simp [*]; done), by repeat (first | exact Drawn0.refl _ | apply Drawn0.step)⟩
   rw [if_pos c2] at H
   have c2b0 : decide (x3_1 < (a0.size : Int)) = true := decide_eq_true c2
   clear c2; by_cases c3 : 0 ≤ x3_1; rotate_left
   · rw [if_neg c3] at H; exact absurd H (by simp)
   rw [if_pos c3] at H
   have c3b0 : decide (0 ≤ x3_1) = true := decide_eq_true c3
   clear c3; have HC5 := Aside0.mk H; clear H
   have p4 : 0 ≤ (x3_1 : Int) := of_decide_eq_true asm
   have q4 : x3_1 < (a0.size : Int) := of_decide_eq_true asm
   have hx4 := bt_at a0 x3_1; replace p4 := eq_true p4; replace q4 := eq_true q4
   go_upto_block 2 with (fail)
   go_cut [5, 6, 7] (fun v5 v6 v7 wc => ∃ (kq : Nat) (x5_4 : Int) (x6_4 : Int) (x7_4 : Int), v5 = .int .i64 x5_4 ∧ v6 = .int .u8 x6_4 ∧ v7 = .int .u8 x7_4 ∧ Aside0 (belfryref02_Utf8.j4 kq a0 x3_1 x5_4 x6_4 x7_4 = some r) ∧ Aside0 (kq ≤ k1) ∧ Drawn0 w wc)
   case first =>
    have H := HC5.out; clear HC5; by_cases c6 : (bt a0 x3_1) < 128
    ·
     rw [if_pos c6] at H
     have c6b0 : decide ((bt a0 x3_1) < 128) = true := decide_eq_true c6
     clear c6
     (first | rw [c6b0] | (simp only [i64_w, i32_w]; rw [c6b0]) | skip)
     have H' := Aside0.mk H; clear H; go_wp2
     go_meet
     case rel => exact ⟨_, (0), (128), (191), sR, sR, sR, H', ⟨by have := HK1.out; first | omega | exact Nat.le_refl _⟩, by repeat (first | exact Drawn0.refl _ | apply Drawn0.step)⟩
    rw [if_neg c6] at H
    have c6b0 : decide ((bt a0 x3_1) < 128) = false := decide_eq_false c6
    clear c6
    (first | rw [c6b0] | (simp only [i64_w, i32_w]; rw [c6b0]) | skip)
    have HC7 := Aside0.mk H; clear H
    go_upto_region 9 with (fail)
    go_cut [19] (fun v19 wc => ∃ (kq : Nat) (x19_6 : Bool), v19 = .bool x19_6 ∧ Aside0 (belfryref02_Utf8.j1 kq a0 x3_1 (bt a0 x3_1) 128 191 x19_6 = some r) ∧ Aside0 (kq ≤ k1) ∧ Drawn0 w wc)
    case first =>
     have H := HC7.out; clear HC7; by_cases c8 : (bt a0 x3_1) ≥ 194; rotate_left
     ·
      rw [if_neg c8] at H
      have c8b0 : decide (194 ≤ (bt a0 x3_1)) = false := decide_eq_false c8
      clear c8
      (first | rw [c8b0] | (simp only [i64_w, i32_w]; rw [c8b0]) | skip)
      have H' := Aside0.mk H; clear H; go_wp2
      go_meet
      case rel => exact ⟨_, (false), sR, H', ⟨by have := HK1.out; first | omega | exact Nat.le_refl _⟩, by repeat (first | exact Drawn0.refl _ | apply Drawn0.step)⟩
     rw [if_pos c8] at H
     have c8b0 : decide (194 ≤ (bt a0 x3_1)) = true := decide_eq_true c8
     clear c8
     (first | rw [c8b0] | (simp only [i64_w, i32_w]; rw [c8b0]) | skip)
     have H' := Aside0.mk H; clear H; go_wp2
     go_meet
     case rel => exact ⟨_, (decide ((bt a0 x3_1) ≤ 223)), sR, H', ⟨by have := HK1.out; first | omega | exact Nat.le_refl _⟩, by repeat (first | exact Drawn0.refl _ | apply Drawn0.step)⟩
    case rest =>
     clear HC7; (try clear c1); (try clear c2); (try clear c2b0); (try clear p2); (try clear c3); (try clear c3b0); (try clear p4); (try clear q4); (try clear hx4); (try clear c6); (try clear c6b0); (try clear c8); (try clear c8b0); (try clear p4); (try clear q4)
     obtain ⟨kq, x19_6, rfl, HA, HJ6, ⟨mc6, rfl⟩⟩ := hcut
     cases kq with
     | zero => exact absurd HA.out (by simp [belfryref02_Utf8.j1])
     | succ kj6 =>
      have H := HA.out; clear HA
      simp only [belfryref02_Utf8.j1] at H
      by_cases c9 : x19_6 = true
      ·
       subst c9
       have H1 : (belfryref02_Utf8.j4 kj6 a0 x3_1 1 128 191) = some r := by rw [if_pos rfl] at H; exact H
       clear H; have H := H1; clear H1; have H' := Aside0.mk H; clear H; go_wp2
       go_meet
       case rel => exact ⟨_, (1), (128), (191), sR, sR, sR, H', ⟨by have := HK1.out; have := HJ6.out; first | omega | exact Nat.le_refl _⟩, by repeat (first | exact Drawn0.refl _ | apply Drawn0.step)⟩
      replace c9 := Bool.eq_false_iff.mpr c9
      subst c9
      have H1 : (if (bt a0 x3_1) ≥ 224 then (belfryref02_Utf8.j2 kj6 a0 x3_1 (bt a0 x3_1) 128 191 (decide ((bt a0 x3_1) ≤ 239))) else (belfryref02_Utf8.j2 kj6 a0 x3_1 (bt a0 x3_1) 128 191 false)) = some r := by rw [if_neg (show ¬ (false = true) by decide)] at H; exact H
      clear H; have H := H1; clear H1; have HC10 := Aside0.mk H; clear H
      go_upto_region 11 with (fail)
      go_cut [26] (fun v26 wc => ∃ (kq : Nat) (x26_9 : Bool), v26 = .bool x26_9 ∧ Aside0 (belfryref02_Utf8.j2 kq a0 x3_1 (bt a0 x3_1) 128 191 x26_9 = some r) ∧ Aside0 (kq ≤ kj6) ∧ Drawn0 w wc)
      case first =>
       have H := HC10.out; clear HC10; by_cases c11 : (bt a0 x3_1) ≥ 224; rotate_left
       ·
        rw [if_neg c11] at H
        have c11b0 : decide (224 ≤ (bt a0 x3_1)) = false := decide_eq_false c11
        clear c11
        (first | rw [c11b0] | (simp only [i64_w, i32_w]; rw [c11b0]) | skip)
        have H' := Aside0.mk H; clear H; go_wp2
        go_meet
        case rel => exact ⟨_, (false), sR, H', ⟨by have := HK1.out; have := HJ6.out; first | omega | exact Nat.le_refl _⟩, by repeat (first | exact Drawn0.refl _ | apply Drawn0.step)⟩
       rw [if_pos c11] at H
       have c11b0 : decide (224 ≤ (bt a0 x3_1)) = true := decide_eq_true c11
       clear c11
       (first | rw [c11b0] | (simp only [i64_w, i32_w]; rw [c11b0]) | skip)
       have H' := Aside0.mk H; clear H; go_wp2
       go_meet
       case rel => exact ⟨_, (decide ((bt a0 x3_1) ≤ 239)), sR, H', ⟨by have := HK1.out; have := HJ6.out; first | omega | exact Nat.le_refl _⟩, by repeat (first | exact Drawn0.refl _ | apply Drawn0.step)⟩
      case rest =>
       clear HC10; (try clear c1); (try clear c2); (try clear c2b0); (try clear p2); (try clear c3); (try clear c3b0); (try clear p4); (try clear q4); (try clear hx4); (try clear c6); (try clear c6b0); (try clear c8); (try clear c8b0); (try clear c9); (try clear c11); (try clear c11b0); (try clear p2); (try clear p4); (try clear q4)
       obtain ⟨kq, x26_9, rfl, HA, HJ9, ⟨mc9, rfl⟩⟩ := hcut
       cases kq with
       | zero => exact absurd HA.out (by simp [belfryref02_Utf8.j2])
       | succ kj9 =>
        have H := HA.out; clear HA
        simp only [belfryref02_Utf8.j2] at H
        by_cases c12 : x26_9 = true
        ·
         subst c12
         have H1 : (if (bt a0 x3_1) = 224 then (if (bt a0 x3_1) = 237 then (belfryref02_Utf8.j4 kj9 a0 x3_1 2 160 159) else (belfryref02_Utf8.j4 kj9 a0 x3_1 2 160 191)) else (if (bt a0 x3_1) = 237 then (belfryref02_Utf8.j4 kj9 a0 x3_1 2 128 159) else (belfryref02_Utf8.j4 kj9 a0 x3_1 2 128 191))) = some r := by rw [if_pos rfl] at H; exact H
         clear H; have H := H1; clear H1; by_cases c13 : (bt a0 x3_1) = 224; rotate_left
         ·
          rw [if_neg c13] at H
          have c13b0 : ((bt a0 x3_1) == 224) = false := beq_eq_false_iff_ne.mpr c13
          have c13b1 : ((bt a0 x3_1) != 224) = true := bne_iff_ne.mpr c13
          by_cases c15 : (bt a0 x3_1) = 237; rotate_left
          ·
           rw [if_neg c15] at H
           have c15b0 : ((bt a0 x3_1) == 237) = false := beq_eq_false_iff_ne.mpr c15
           have c15b1 : ((bt a0 x3_1) != 237) = true := bne_iff_ne.mpr c15
           have H' := Aside0.mk H; clear H; go_wp2
           go_meet
           case rel => exact ⟨_, (2), (128), (191), sR, sR, sR, H', ⟨by have := HK1.out; have := HJ6.out; have := HJ9.out; first | omega | exact Nat.le_refl _⟩, by repeat (first | exact Drawn0.refl _ | apply Drawn0.step)⟩
          rw [if_pos c15] at H
          have c15b0 : ((bt a0 x3_1) == 237) = true := beq_iff_eq.mpr c15
          have c15b1 : ((bt a0 x3_1) != 237) = false := bne_eq_false_iff_eq.mpr c15
          clear c15; have H' := Aside0.mk H; clear H; go_wp2
          go_meet
          case rel => exact ⟨_, (2), (128), (159), sR, sR, sR, H', ⟨by have := HK1.out; have := HJ6.out; have := HJ9.out; first | omega | exact Nat.le_refl _⟩, by repeat (first | exact Drawn0.refl _ | apply Drawn0.step)⟩
         rw [if_pos c13] at H
         have c13b0 : ((bt a0 x3_1) == 224) = true := beq_iff_eq.mpr c13
         have c13b1 : ((bt a0 x3_1) != 224) = false := bne_eq_false_iff_eq.mpr c13
         clear c13; by_cases c14 : (bt a0 x3_1) = 237; rotate_left
         ·
          rw [if_neg c14] at H
          have c14b0 : ((bt a0 x3_1) == 237) = false := beq_eq_false_iff_ne.mpr c14
          have c14b1 : ((bt a0 x3_1) != 237) = true := bne_iff_ne.mpr c14
          have H' := Aside0.mk H; clear H; go_wp2
          go_meet
          case rel => exact ⟨_, (2), (160), (191), sR, sR, sR, H', ⟨by have := HK1.out; have := HJ6.out; have := HJ9.out; first | omega | exact Nat.le_refl _⟩, by repeat (first | exact Drawn0.refl _ | apply Drawn0.step)⟩
         rw [if_pos c14] at H
         have c14b0 : ((bt a0 x3_1) == 237) = true := beq_iff_eq.mpr c14
         have c14b1 : ((bt a0 x3_1) != 237) = false := bne_eq_false_iff_eq.mpr c14
         clear c14; have H' := Aside0.mk H; clear H; go_wp2
         go_meet
         case rel => exact ⟨_, (2), (160), (159), sR, sR, sR, H', ⟨by have := HK1.out; have := HJ6.out; have := HJ9.out; first | omega | exact Nat.le_refl _⟩, by repeat (first | exact Drawn0.refl _ | apply Drawn0.step)⟩
        replace c12 := Bool.eq_false_iff.mpr c12
        subst c12
        have H1 : (if (bt a0 x3_1) ≥ 240 then (belfryref02_Utf8.j3 kj9 a0 x3_1 (bt a0 x3_1) 128 191 (decide ((bt a0 x3_1) ≤ 244))) else (belfryref02_Utf8.j3 kj9 a0 x3_1 (bt a0 x3_1) 128 191 false)) = some r := by rw [if_neg (show ¬ (false = true) by decide)] at H; exact H
        clear H; have H := H1; clear H1; have HC16 := Aside0.mk H; clear H
        go_upto_region 17 with (fail)
        go_cut [37] (fun v37 wc => ∃ (kq : Nat) (x37_15 : Bool), v37 = .bool x37_15 ∧ Aside0 (belfryref02_Utf8.j3 kq a0 x3_1 (bt a0 x3_1) 128 191 x37_15 = some r) ∧ Aside0 (kq ≤ kj9) ∧ Drawn0 w wc)
        case first =>
         have H := HC16.out; clear HC16; by_cases c17 : (bt a0 x3_1) ≥ 240; rotate_left
         ·
          rw [if_neg c17] at H
          have c17b0 : decide (240 ≤ (bt a0 x3_1)) = false := decide_eq_false c17
          clear c17
          (first | rw [c17b0] | (simp only [i64_w, i32_w]; rw [c17b0]) | skip)
          have H' := Aside0.mk H; clear H; go_wp2
          go_meet
          case rel => exact ⟨_, (false), sR, H', ⟨by have := HK1.out; have := HJ6.out; have := HJ9.out; first | omega | exact Nat.le_refl _⟩, by repeat (first | exact Drawn0.refl _ | apply Drawn0.step)⟩
         rw [if_pos c17] at H
         have c17b0 : decide (240 ≤ (bt a0 x3_1)) = true := decide_eq_true c17
         clear c17
         (first | rw [c17b0] | (simp only [i64_w, i32_w]; rw [c17b0]) | skip)
         have H' := Aside0.mk H; clear H; go_wp2
         go_meet
         case rel => exact ⟨_, (decide ((bt a0 x3_1) ≤ 244)), sR, H', ⟨by have := HK1.out; have := HJ6.out; have := HJ9.out; first | omega | exact Nat.le_refl _⟩, by repeat (first | exact Drawn0.refl _ | apply Drawn0.step)⟩
        case rest =>
         clear HC16; (try clear c1); (try clear c2); (try clear c2b0); (try clear p2); (try clear c3); (try clear c3b0); (try clear p4); (try clear q4); (try clear hx4); (try clear c6); (try clear c6b0); (try clear c8); (try clear c8b0); (try clear c9); (try clear c11); (try clear c11b0); (try clear c12); (try clear c13); (try clear c13b0); (try clear c13b1); (try clear c14); (try clear c14b0); (try clear c14b1); (try clear c15); (try clear c15b0); (try clear c15b1); (try clear c17); (try clear c17b0); (try clear p2); (try clear p4); (try clear q4)
         obtain ⟨kq, x37_15, rfl, HA, HJ15, ⟨mc15, rfl⟩⟩ := hcut
         cases kq with
         | zero => exact absurd HA.out (by simp [belfryref02_Utf8.j3])
         | succ kj15 =>
          have H := HA.out; clear HA
          simp only [belfryref02_Utf8.j3] at H
          by_cases c18 : x37_15 = true; rotate_left
          ·
           replace c18 := Bool.eq_false_iff.mpr c18
           subst c18
           have H1 : (some false) = some r := by rw [if_neg (show ¬ (false = true) by decide)] at H; exact H
           clear H; have H := H1; clear H1
           obtain rfl := Option.some.inj H
           go_wp2; go_ret
           exact ⟨by first | rfl | (simp; done) | (simp [*]; done), by repeat (first | exact Drawn0.refl _ | apply Drawn0.step)⟩
          subst c18
          have H1 : (if (bt a0 x3_1) = 240 then (if (bt a0 x3_1) = 244 then (belfryref02_Utf8.j4 kj15 a0 x3_1 3 144 143) else (belfryref02_Utf8.j4 kj15 a0 x3_1 3 144 191)) else (if (bt a0 x3_1) = 244 then (belfryref02_Utf8.j4 kj15 a0 x3_1 3 128 143) else (belfryref02_Utf8.j4 kj15 a0 x3_1 3 128 191))) = some r := by rw [if_pos rfl] at H; exact H
          clear H; have H := H1; clear H1; by_cases c19 : (bt a0 x3_1) = 240; rotate_left
          ·
           rw [if_neg c19] at H
           have c19b0 : ((bt a0 x3_1) == 240) = false := beq_eq_false_iff_ne.mpr c19
           have c19b1 : ((bt a0 x3_1) != 240) = true := bne_iff_ne.mpr c19
           by_cases c21 : (bt a0 x3_1) = 244; rotate_left
           ·
            rw [if_neg c21] at H
            have c21b0 : ((bt a0 x3_1) == 244) = false := beq_eq_false_iff_ne.mpr c21
            have c21b1 : ((bt a0 x3_1) != 244) = true := bne_iff_ne.mpr c21
            have H' := Aside0.mk H; clear H; go_wp2
            go_meet
            case rel => exact ⟨_, (3), (128), (191), sR, sR, sR, H', ⟨by have := HK1.out; have := HJ6.out; have := HJ9.out; have := HJ15.out; first | omega | exact Nat.le_refl _⟩, by repeat (first | exact Drawn0.refl _ | apply Drawn0.step)⟩
           rw [if_pos c21] at H
           have c21b0 : ((bt a0 x3_1) == 244) = true := beq_iff_eq.mpr c21
           have c21b1 : ((bt a0 x3_1) != 244) = false := bne_eq_false_iff_eq.mpr c21
           clear c21; have H' := Aside0.mk H; clear H; go_wp2
           go_meet
           case rel => exact ⟨_, (3), (128), (143), sR, sR, sR, H', ⟨by have := HK1.out; have := HJ6.out; have := HJ9.out; have := HJ15.out; first | omega | exact Nat.le_refl _⟩, by repeat (first | exact Drawn0.refl _ | apply Drawn0.step)⟩
          rw [if_pos c19] at H
          have c19b0 : ((bt a0 x3_1) == 240) = true := beq_iff_eq.mpr c19
          have c19b1 : ((bt a0 x3_1) != 240) = false := bne_eq_false_iff_eq.mpr c19
          clear c19; by_cases c20 : (bt a0 x3_1) = 244; rotate_left
          ·
           rw [if_neg c20] at H
           have c20b0 : ((bt a0 x3_1) == 244) = false := beq_eq_false_iff_ne.mpr c20
           have c20b1 : ((bt a0 x3_1) != 244) = true := bne_iff_ne.mpr c20
           have H' := Aside0.mk H; clear H; go_wp2
           go_meet
           case rel => exact ⟨_, (3), (144), (191), sR, sR, sR, H', ⟨by have := HK1.out; have := HJ6.out; have := HJ9.out; have := HJ15.out; first | omega | exact Nat.le_refl _⟩, by repeat (first | exact Drawn0.refl _ | apply Drawn0.step)⟩
          rw [if_pos c20] at H
          have c20b0 : ((bt a0 x3_1) == 244) = true := beq_iff_eq.mpr c20
          have c20b1 : ((bt a0 x3_1) != 244) = false := bne_eq_false_iff_eq.mpr c20
          clear c20; have H' := Aside0.mk H; clear H; go_wp2
          go_meet
          case rel => exact ⟨_, (3), (144), (143), sR, sR, sR, H', ⟨by have := HK1.out; have := HJ6.out; have := HJ9.out; have := HJ15.out; first | omega | exact Nat.le_refl _⟩, by repeat (first | exact Drawn0.refl _ | apply Drawn0.step)⟩
   case rest =>
    clear HC5; (try clear c1); (try clear c2); (try clear c2b0); (try clear p2); (try clear c3); (try clear c3b0); (try clear p4); (try clear q4); (try clear hx4); (try clear c6); (try clear c6b0); (try clear c8); (try clear c8b0); (try clear c9); (try clear c11); (try clear c11b0); (try clear c12); (try clear c13); (try clear c13b0); (try clear c13b1); (try clear c14); (try clear c14b0); (try clear c14b1); (try clear c15); (try clear c15b0); (try clear c15b1); (try clear c17); (try clear c17b0); (try clear c18); (try clear c19); (try clear c19b0); (try clear c19b1); (try clear c20)
    (try clear c20b0); (try clear c20b1); (try clear c21); (try clear c21b0); (try clear c21b1); (try clear p2); (try clear p4); (try clear q4)
    obtain ⟨kq, x5_4, x6_4, x7_4, rfl, rfl, rfl, HA, HJ4, ⟨mc4, rfl⟩⟩ := hcut
    cases kq with
    | zero => exact absurd HA.out (by simp [belfryref02_Utf8.j4])
    | succ kj4 =>
     have H := HA.out; clear HA
     simp only [belfryref02_Utf8.j4] at H
     by_cases c22 : x5_4 ≥ (wrap64 ((a0.size : Int) - x3_1))
     ·
      rw [if_pos c22] at H
      have c22b0 : decide ((wrap64 ((a0.size : Int) - x3_1)) ≤ x5_4) = true := decide_eq_true c22
      clear c22
      obtain rfl := Option.some.inj H
      go_wp2; go_ret
      exact ⟨by first | rfl | (simp; done) | (simp [*]; done), by repeat (first | exact Drawn0.refl _ | apply Drawn0.step)⟩
     rw [if_neg c22] at H
     have c22b0 : decide ((wrap64 ((a0.size : Int) - x3_1)) ≤ x5_4) = false := decide_eq_false c22
     clear c22; have H' := Aside0.mk H; clear H; go_wp2
     go_loopg [6, 7, 8] kj4 (fun kq v6 v7 v8 w' => ∃ (x6_3 : Int) (x7_3 : Int) (x8_3 : Int), v6 = .int .u8 x6_3 ∧ v7 = .int .u8 x7_3 ∧ v8 = .int .i64 x8_3 ∧ Aside0 (belfryref02_Utf8.l1 kq a0 x3_1 x5_4 x6_3 x7_3 x8_3 = some r) ∧ Aside0 (kq ≤ kj4) ∧ Drawn0 w w')
     case atStart => exact ⟨(x6_4), (x7_4), (1), sR, sR, sR, H', ⟨Nat.le_refl _⟩, by repeat (first | exact Drawn0.refl _ | apply Drawn0.step)⟩
     case round =>
      clear H'; (try clear c1); (try clear c2); (try clear c2b0); (try clear p2); (try clear c3); (try clear c3b0); (try clear c4); (try clear p4); (try clear q4); (try clear hx4); (try clear c6); (try clear c6b0); (try clear p6); (try clear c8); (try clear c8b0); (try clear c9); (try clear c11); (try clear c11b0); (try clear c12); (try clear c13); (try clear c13b0); (try clear c13b1); (try clear c14); (try clear c14b0); (try clear c14b1); (try clear c15); (try clear c15b0); (try clear c15b1); (try clear c17); (try clear c17b0); (try clear c18); (try clear c19); (try clear c19b0)
      (try clear c19b1); (try clear c20); (try clear c20b0); (try clear c20b1); (try clear c21); (try clear c21b0); (try clear c21b1); (try clear c22); (try clear c22b0); (try clear p2); (try clear p4); (try clear q4)
      obtain ⟨x6_3, x7_3, x8_3, rfl, rfl, rfl, HA, HK3, ⟨m3, rfl⟩⟩ := hrel
      cases gk with
      | zero => exact absurd HA.out (by simp [belfryref02_Utf8.l1])
      | succ k3 =>
       have H := HA.out; clear HA
       simp only [belfryref02_Utf8.l1] at H
       by_cases c23 : x8_3 ≤ x5_4; rotate_left
       ·
        rw [if_neg c23] at H
        have c23b0 : decide (x8_3 ≤ x5_4) = false := decide_eq_false c23
        clear c23; have H' := Aside0.mk H; clear H; go_wp2
        go_roundg k3
        case measure => have := HK1.out; have := HJ4.out; have := HK3.out; omega
        case rel => exact ⟨(wrap64 ((wrap64 (x3_1 + x5_4)) + 1)), sR, H', ⟨by have := HK1.out; have := HJ4.out; have := HK3.out; omega⟩, by repeat (first | exact Drawn0.refl _ | apply Drawn0.step)⟩
       rw [if_pos c23] at H
       have c23b0 : decide (x8_3 ≤ x5_4) = true := decide_eq_true c23
       clear c23
       obtain ⟨ji24, hji24⟩ : ∃ j_ : Int, (wrap64 (x3_1 + x8_3)) = j_ := ⟨_, rfl⟩
       replace H : (if 0 ≤ (ji24) then (if (ji24) < (a0.size : Int) then (if (bt a0 (ji24)) < x6_3 then (some false) else (if (bt a0 (ji24)) > x7_3 then (some false) else (belfryref02_Utf8.l1 k3 a0 x3_1 x5_4 128 191 (wrap64 (x8_3 + 1))))) else (none)) else (none)) = some r := by first | (rw [hji24] at H; exact H) | (simp only [hji24] at H ⊢; exact H)
       have hji24w : (IntKind.i64.wrap (x3_1 + x8_3)) = ji24 := (i64_w _).trans hji24
       by_cases c25 : 0 ≤ (ji24); rotate_left
       · rw [if_neg c25] at H; exact absurd H (by simp)
       rw [if_pos c25] at H
       have c25b0 : decide (0 ≤ (ji24)) = true := decide_eq_true c25
       clear c25; by_cases c26 : (ji24) < (a0.size : Int); rotate_left
       · rw [if_neg c26] at H; exact absurd H (by simp)
       rw [if_pos c26] at H
       have c26b0 : decide ((ji24) < (a0.size : Int)) = true := decide_eq_true c26
       clear c26; by_cases c28 : (bt a0 (ji24)) < x6_3
       ·
        rw [if_pos c28] at H
        have c28b0 : decide ((bt a0 (ji24)) < x6_3) = true := decide_eq_true c28
        clear c28
        obtain rfl := Option.some.inj H
        have p27 : 0 ≤ ((ji24) : Int) := of_decide_eq_true asm
        have q27 : (ji24) < (a0.size : Int) := of_decide_eq_true asm
        have hx27 := bt_at a0 (ji24); replace p27 := eq_true p27; replace q27 := eq_true q27; go_wp2; go_ret
        exact ⟨by first | rfl | (simp; done) | (simp only [← hji24] <;> (first | rfl | simp)) | (simp [*]; done), by repeat (first | exact Drawn0.refl _ | apply Drawn0.step)⟩
       rw [if_neg c28] at H
       have c28b0 : decide ((bt a0 (ji24)) < x6_3) = false := decide_eq_false c28
       clear c28; by_cases c30 : (bt a0 (ji24)) > x7_3
       ·
        rw [if_pos c30] at H
        have c30b0 : decide (x7_3 < (bt a0 (ji24))) = true := decide_eq_true c30
        clear c30
        obtain rfl := Option.some.inj H
        have p27 : 0 ≤ ((ji24) : Int) := of_decide_eq_true asm
        have q27 : (ji24) < (a0.size : Int) := of_decide_eq_true asm
        have hx27 := bt_at a0 (ji24); replace p27 := eq_true p27; replace q27 := eq_true q27
        have p29 : 0 ≤ ((ji24) : Int) := of_decide_eq_true asm
        have q29 : (ji24) < (a0.size : Int) := of_decide_eq_true asm
        have hx29 := bt_at a0 (ji24); replace p29 := eq_true p29; replace q29 := eq_true q29; go_wp2; go_ret
        exact ⟨by first | rfl | (simp; done) | (simp only [← hji24] <;> (first | rfl | simp)) | (simp [*]; done), by repeat (first | exact Drawn0.refl _ | apply Drawn0.step)⟩
       rw [if_neg c30] at H
       have c30b0 : decide (x7_3 < (bt a0 (ji24))) = false := decide_eq_false c30
       clear c30; have H' := Aside0.mk H; clear H
       have p27 : 0 ≤ ((ji24) : Int) := of_decide_eq_true asm
       have q27 : (ji24) < (a0.size : Int) := of_decide_eq_true asm
       have hx27 := bt_at a0 (ji24); replace p27 := eq_true p27; replace q27 := eq_true q27
       have p29 : 0 ≤ ((ji24) : Int) := of_decide_eq_true asm
       have q29 : (ji24) < (a0.size : Int) := of_decide_eq_true asm
       have hx29 := bt_at a0 (ji24); replace p29 := eq_true p29; replace q29 := eq_true q29; go_wp2
       go_roundg k3
       case measure => have := HK1.out; have := HJ4.out; have := HK3.out; omega
       case rel => exact ⟨(128), (191), (wrap64 (x8_3 + 1)), sR, sR, sR, H', ⟨by have := HK1.out; have := HJ4.out; have := HK3.out; omega⟩, by repeat (first | exact Drawn0.refl _ | apply Drawn0.step)⟩
def belfryref04_text.f (k : Nat) (a0 : ByteArray) : Option (Bool) := if (a0.size : Int) ≤ 256 then ((belfryref02_Utf8.f k a0).bind fun t242 => (some t242)) else (some false)
set_option maxHeartbeats 8000000 in
set_option maxRecDepth 100000 in
theorem belfryref04_text.calls (k : Nat) (a0 : ByteArray) (r : Bool) (w : World) (h : belfryref04_text.f k a0 = some r) :
  Calls Tryz.prog 97 #[.string a0] w fun e w' => e = .returned (.bool r) ∧ Drawn0 w w' := by
 have H : (if (a0.size : Int) ≤ 256 then ((belfryref02_Utf8.f k a0).bind fun t242 => (some t242)) else (some false)) = some r := h
 clear h; by_cases c2 : (a0.size : Int) ≤ 256; rotate_left
 ·
  rw [if_neg c2] at H
  have c2b0 : decide ((a0.size : Int) ≤ 256) = false := decide_eq_false c2
  have c2b1 : decide (a0.size ≤ 256) = false := decide_eq_false (by omega)
  clear c2
  obtain rfl := Option.some.inj H
  go_enter Tryz.func97, Tryz.ntmps97
  go_wp2; go_ret
  exact ⟨by first | rfl | (simp; done) | (simp [*]; done), by repeat (first | exact Drawn0.refl _ | apply Drawn0.step)⟩
 rw [if_pos c2] at H
 have c2b0 : decide ((a0.size : Int) ≤ 256) = true := decide_eq_true c2
 have c2b1 : decide (a0.size ≤ 256) = true := decide_eq_true (by omega)
 clear c2
 replace H := Option.bind_eq_some_iff.mp H
 obtain ⟨t242, A30, H⟩ := H
 replace H : (some t242) = some r := H
 have A3 := Aside0.mk A30; clear A30
 obtain rfl := Option.some.inj H
 go_enter Tryz.func97, Tryz.ntmps97
 go_wp2_with (first | (go_at_call 130; (with_reducible refine (belfryref02_Utf8.calls k a0 t242 _ A3.out).mono ?_); rintro e w' ⟨rfl, ⟨nd, rfl⟩⟩))
 go_ret
 exact ⟨by first | rfl | (simp; done) | (simp [*]; done), by repeat (first | exact Drawn0.refl _ | apply Drawn0.step)⟩
end Go.Proofs.YtkedidjjhhjdbaaGreatDoor.Pr
end
