import Derived.Test.YtkedidjjhhjdbaaGreatDoorBc0
import Derived.Test.YtkedidjjhhjdbaaGreatDoorBc5
import Derived.Test.YtkedidjjhhjdbaaGreatDoorBc6
import Derived.Test.YtkedidjjhhjdbaaGreatDoorBc3
import Derived.Lib.ValidLaws
section
namespace Go.Proofs.YtkedidjjhhjdbaaGreatDoor.Pr
open Go.RowKit Go.Proofs.YtkedidjjhhjdbaaGreatDoorW.PrintWords Go.Proofs.YtkedidjjhhjdbaaGreatDoorW.PrintLast Go.Proofs.YtkedidjjhhjdbaaGreatDoorW.PrintMore
attribute [local go_sem] max2_int min2_int max_two min_two max_three min_three max_four min_four strGtr strLeq strGeq
set_option linter.unusedVariables false
set_option linter.unusedSimpArgs false
def attr_plain.f (a0 : ByteArray) : Option (Bool) := if (a0.size : Int) ≤ 256 then ((utf8_ValidString.f a0).bind fun t106 => (some t106)) else (some false)
set_option maxHeartbeats 8000000 in
set_option maxRecDepth 100000 in
theorem attr_plain.calls (a0 : ByteArray) (r : Bool) (w : World) (h : attr_plain.f a0 = some r) (he_ : EnvW w := by repeat (first | with_reducible assumption | with_reducible exact env_of (by with_reducible assumption) (by with_reducible assumption) | with_reducible exact env_out (by with_reducible assumption) | with_reducible apply env_alloc | with_reducible apply env_drewN | with_reducible apply env_drew | with_reducible refine env_set ?_ (by with_reducible assumption) (by with_reducible assumption))) :
  Calls Tryz.prog 93 #[.string a0] w fun e w' => e = .returned (.bool r) ∧ Below w.heap.size w w' := by
 have HE_ := Aside0.mk he_; clear he_; have HB := Aside0.mk (Below.refl w.heap.size w)
 have H : (if (a0.size : Int) ≤ 256 then ((utf8_ValidString.f a0).bind fun t106 => (some t106)) else (some false)) = some r := h
 clear h; by_cases c2 : (a0.size : Int) ≤ 256; rotate_left
 ·
  rw [if_neg c2] at H
  have c2b0 : decide ((a0.size : Int) ≤ 256) = false := decide_eq_false c2
  have c2b1 : decide (a0.size ≤ 256) = false := decide_eq_false (by omega)
  clear c2
  obtain rfl := Option.some.inj H
  go_enter Tryz.func93, Tryz.ntmps93
  go_wp2; go_ret
  exact ⟨eR, bO⟩
 rw [if_pos c2] at H
 have c2b0 : decide ((a0.size : Int) ≤ 256) = true := decide_eq_true c2
 have c2b1 : decide (a0.size ≤ 256) = true := decide_eq_true (by omega)
 clear c2
 replace H := Option.bind_eq_some_iff.mp H
 obtain ⟨t106, A30, H⟩ := H
 replace H : (some t106) = some r := H
 have A3 := Aside0.mk A30; clear A30
 obtain rfl := Option.some.inj H
 go_enter Tryz.func93, Tryz.ntmps93
 go_wp2_with (first | (go_at_call 118; (with_reducible refine (utf8_ValidString.calls a0 t106 _ A3.out).mono ?_); rintro e w4 ⟨rfl, hb⟩; have n0_ := Aside0.mk (below_step bO hb); clear HB; have HB := n0_; clear n0_; (try clear hb); (try clear hb2); (try clear hk); (try clear hi)))
 go_ret
 exact ⟨eR, bO⟩
def attr_wrong.l0 : Nat → List (S33) → Int → Int → Option (Int)
  | 0, _, _, _ => none
  | k + 1, x5, x6, x7 => if x7 < x6 then (if 0 ≤ x7 then (if x7 < (x5.length : Int) then ((attr_sign.f ((rd_T33 x5 x7).f0)).bind fun t109 => (if t109.toList = ([] : List UInt8) then (some 42) else ((attr_Key.f k ((rd_T33 x5 x7).f1)).bind fun t110 => (if t110 = true then ((attr_plain.f ((rd_T33 x5 x7).f2)).bind fun t111 => (if t111 = true then (attr_wrong.l0 k x5 x6 (wrap64 (x7 + 1))) else (some 41))) else (some 40))))) else (none)) else (none)) else (some 0)
def attr_wrong.f (k : Nat) (l0 : List (S33)) : Option (Int) := attr_wrong.l0 k l0 (l0.length : Int) 0
set_option maxHeartbeats 8000000 in
set_option maxRecDepth 100000 in
theorem attr_wrong.calls (k : Nat) (A0 : Option Addr) (c0 : Nat) (l0 : List (S33)) (r : Int) (w : World) (hr0 : Kd.C k33 w A0 l0.length l0) (hc0 : l0.length ≤ c0) (h : attr_wrong.f k l0 = some r) (he_ : EnvW w := by repeat (first | with_reducible assumption | with_reducible exact env_of (by with_reducible assumption) (by with_reducible assumption) | with_reducible exact env_out (by with_reducible assumption) | with_reducible apply env_alloc | with_reducible apply env_drewN | with_reducible apply env_drew | with_reducible refine env_set ?_ (by with_reducible assumption) (by with_reducible assumption))) :
  Calls Tryz.prog 63 #[.slice A0 l0.length c0] w fun e w' => e = .returned (.int .i64 r) ∧ Below w.heap.size w w' := by
 have HE_ := Aside0.mk he_; clear he_; have hu33 := Tryz.underlying33; have HR0 := Aside0.mk hr0; have HC0 := Aside0.mk hc0; clear hr0 hc0; have HB := Aside0.mk (Below.refl w.heap.size w)
 have H : (attr_wrong.l0 k l0 (l0.length : Int) 0) = some r := h
 clear h; have H' := Aside0.mk H; clear H
 go_enter Tryz.func63, Tryz.ntmps63
 go_wp2
 go_loopg [7] k (fun kq v7 w' => ∃ (x7_1 : Int), v7 = .int .i64 x7_1 ∧ Aside0 (attr_wrong.l0 kq l0 (l0.length : Int) x7_1 = some r) ∧ Aside0 (kq ≤ k) ∧ Aside0 (Below w.heap.size w w'))
 case atStart => exact ⟨(0), sR, H', ⟨Nat.le_refl _⟩, ⟨bO⟩⟩
 case round =>
  clear H'
  obtain ⟨x7_1, rfl, HA, HK1, HB⟩ := hrel
  cases gk with
  | zero => exact absurd HA.out (by simp [attr_wrong.l0])
  | succ k1 =>
   have H := HA.out; clear HA
   simp only [attr_wrong.l0] at H
   by_cases c2 : x7_1 < (l0.length : Int); rotate_left
   ·
    rw [if_neg c2] at H
    have c2b0 : decide (x7_1 < (l0.length : Int)) = false := decide_eq_false c2
    clear c2
    obtain rfl := Option.some.inj H
    go_wp2; go_ret
    exact ⟨eR, bO⟩
   rw [if_pos c2] at H
   have c2b0 : decide (x7_1 < (l0.length : Int)) = true := decide_eq_true c2
   clear c2; by_cases c3 : 0 ≤ x7_1; rotate_left
   · rw [if_neg c3] at H; exact absurd H (by simp)
   rw [if_pos c3] at H
   have c3b0 : decide (0 ≤ x7_1) = true := decide_eq_true c3
   clear c3; by_cases c4 : x7_1 < (l0.length : Int); rotate_left
   · rw [if_neg c4] at H; exact absurd H (by simp)
   rw [if_pos c4] at H
   have c4b0 : decide (x7_1 < (l0.length : Int)) = true := decide_eq_true c4
   clear c4
   replace H := Option.bind_eq_some_iff.mp H
   obtain ⟨t109, A50, H⟩ := H
   replace H : (if t109.toList = ([] : List UInt8) then (some 42) else ((attr_Key.f k1 ((rd_T33 l0 x7_1).f1)).bind fun t110 => (if t110 = true then ((attr_plain.f ((rd_T33 l0 x7_1).f2)).bind fun t111 => (if t111 = true then (attr_wrong.l0 k1 l0 (l0.length : Int) (wrap64 (x7_1 + 1))) else (some 41))) else (some 40)))) = some r := H
   have A5 := Aside0.mk A50; clear A50; by_cases c6 : t109.toList = ([] : List UInt8)
   ·
    rw [if_pos c6] at H
    have c6b0 : (t109.toList == ([] : List UInt8)) = true := beq_iff_eq.mpr c6
    have c6b1 : (t109.toList != ([] : List UInt8)) = false := bne_eq_false_iff_eq.mpr c6
    clear c6
    obtain rfl := Option.some.inj H
    have p107 : 0 ≤ (x7_1 : Int) := of_decide_eq_true asm
    have q107 : x7_1 < (l0.length : Int) := of_decide_eq_true asm
    obtain ⟨ad107, e107, hx107_0, hx107_1, hx107_2⟩ := at_T33 HR0.out x7_1 p107 q107
    cases e107
    replace hx107_0 := bC HB hx107_0
    replace hx107_1 := bC HB hx107_1
    replace hx107_2 := bC HB hx107_2
    replace p107 := eq_true p107; replace q107 := eq_true q107
    go_wp2_with (first | ((with_reducible refine gate_dst (N := 4) rfl ?_); refine box_event ?hg (N := 4) ?hd (cs := #[.int .i64 0, .string (⟨#[]⟩ : ByteArray), .string (⟨#[]⟩ : ByteArray)]) (t := 33) ?hr ?_; (case hd => rfl); (case hg => rfl); (case hr => first | (go_simp; done) | (go_simp; rfl)); intro gb108 hg w7 hbox hb; have n0_ := Aside0.mk (below_step bO hb); have n1_ := Aside0.mk (hbox); have n2_ := Aside0.mk ((by rw [hg]; exact (below_size bO) : w.heap.size ≤ gb108)); have n3_ := Aside0.mk ((by rw [hg]; exact (below_size bO) : w.heap.size ≤ gb108)); clear HB; have HB := n0_; have BK108 := n1_; have GW108 := n2_; have GE108 := n3_; clear n0_ n1_ n2_ n3_; clear hb hbox hg; have hcz8_0 : w7.cell? ⟨gb108, 0, none⟩ = some (.int .i64 0) := (blk_cell BK108.out 0).trans rfl; have hcz8_1 : w7.cell? ⟨gb108, 1, none⟩ = some (.string (⟨#[]⟩ : ByteArray)) := (blk_cell BK108.out 1).trans rfl; have hcz8_2 : w7.cell? ⟨gb108, 2, none⟩ = some (.string (⟨#[]⟩ : ByteArray)) := (blk_cell BK108.out 2).trans rfl; have hfz8_0 := blk_frozen BK108.out 0; have hfz8_1 := blk_frozen BK108.out 1; have hfz8_2 := blk_frozen BK108.out 2) | ((with_reducible refine gate_callee (f := 92) rfl ?_); refine goesL_ (some 14) rfl rfl Tryz.func92 (by kernel_rfl) rfl #[.int .i64 ((rd_T33 l0 x7_1).f0)] rfl lR ?_; (with_reducible refine (attr_sign.calls ((rd_T33 l0 x7_1).f0) t109 _ A5.out).mono ?_); rintro e w' ⟨rfl, ⟨nd, rfl⟩⟩; refine ⟨_, rfl, ?_⟩))
    go_ret
    exact ⟨eR, bO⟩
   rw [if_neg c6] at H
   have c6b0 : (t109.toList == ([] : List UInt8)) = false := beq_eq_false_iff_ne.mpr c6
   have c6b1 : (t109.toList != ([] : List UInt8)) = true := bne_iff_ne.mpr c6
   replace H := Option.bind_eq_some_iff.mp H
   obtain ⟨t110, A90, H⟩ := H
   replace H : (if t110 = true then ((attr_plain.f ((rd_T33 l0 x7_1).f2)).bind fun t111 => (if t111 = true then (attr_wrong.l0 k1 l0 (l0.length : Int) (wrap64 (x7_1 + 1))) else (some 41))) else (some 40)) = some r := H
   have A9 := Aside0.mk A90; clear A90; by_cases c10 : t110 = true; rotate_left
   ·
    replace c10 := Bool.eq_false_iff.mpr c10
    subst c10
    have H1 : (some 40) = some r := by rw [if_neg (show ¬ (false = true) by decide)] at H; exact H
    clear H; have H := H1; clear H1
    obtain rfl := Option.some.inj H
    have p107 : 0 ≤ (x7_1 : Int) := of_decide_eq_true asm
    have q107 : x7_1 < (l0.length : Int) := of_decide_eq_true asm
    obtain ⟨ad107, e107, hx107_0, hx107_1, hx107_2⟩ := at_T33 HR0.out x7_1 p107 q107
    cases e107
    replace hx107_0 := bC HB hx107_0
    replace hx107_1 := bC HB hx107_1
    replace hx107_2 := bC HB hx107_2
    replace p107 := eq_true p107; replace q107 := eq_true q107
    go_wp2_with (first | ((with_reducible refine gate_dst (N := 4) rfl ?_); refine box_event ?hg (N := 4) ?hd (cs := #[.int .i64 0, .string (⟨#[]⟩ : ByteArray), .string (⟨#[]⟩ : ByteArray)]) (t := 33) ?hr ?_; (case hd => rfl); (case hg => rfl); (case hr => first | (go_simp; done) | (go_simp; rfl)); intro gb108 hg w19 hbox hb; have n0_ := Aside0.mk (below_step bO hb); have n1_ := Aside0.mk (hbox); have n2_ := Aside0.mk ((by rw [hg]; exact (below_size bO) : w.heap.size ≤ gb108)); have n3_ := Aside0.mk ((by rw [hg]; exact (below_size bO) : w.heap.size ≤ gb108)); clear HB; have HB := n0_; have BK108 := n1_; have GW108 := n2_; have GE108 := n3_; clear n0_ n1_ n2_ n3_; clear hb hbox hg; have hcz20_0 : w19.cell? ⟨gb108, 0, none⟩ = some (.int .i64 0) := (blk_cell BK108.out 0).trans rfl; have hcz20_1 : w19.cell? ⟨gb108, 1, none⟩ = some (.string (⟨#[]⟩ : ByteArray)) := (blk_cell BK108.out 1).trans rfl; have hcz20_2 : w19.cell? ⟨gb108, 2, none⟩ = some (.string (⟨#[]⟩ : ByteArray)) := (blk_cell BK108.out 2).trans rfl; have hfz20_0 := blk_frozen BK108.out 0; have hfz20_1 := blk_frozen BK108.out 1; have hfz20_2 := blk_frozen BK108.out 2) | ((with_reducible refine gate_callee (f := 92) rfl ?_); refine goesL_ (some 14) rfl rfl Tryz.func92 (by kernel_rfl) rfl #[.int .i64 ((rd_T33 l0 x7_1).f0)] rfl lR ?_; (with_reducible refine (attr_sign.calls ((rd_T33 l0 x7_1).f0) t109 _ A5.out).mono ?_); rintro e w' ⟨rfl, ⟨nd, rfl⟩⟩; refine ⟨_, rfl, ?_⟩) | ((with_reducible refine gate_callee (f := 52) rfl ?_); refine goesL_ (some 19) rfl rfl Tryz.func52 (by kernel_rfl) rfl #[.string ((rd_T33 l0 x7_1).f1)] rfl lR ?_; (with_reducible refine (attr_Key.calls k1 ((rd_T33 l0 x7_1).f1) false _ A9.out).mono ?_); rintro e w' ⟨rfl, ⟨nd, rfl⟩⟩; refine ⟨_, rfl, ?_⟩))
    go_ret
    exact ⟨eR, bO⟩
   subst c10
   have H1 : ((attr_plain.f ((rd_T33 l0 x7_1).f2)).bind fun t111 => (if t111 = true then (attr_wrong.l0 k1 l0 (l0.length : Int) (wrap64 (x7_1 + 1))) else (some 41))) = some r := by rw [if_pos rfl] at H; exact H
   clear H; have H := H1; clear H1
   replace H := Option.bind_eq_some_iff.mp H
   obtain ⟨t111, A110, H⟩ := H
   replace H : (if t111 = true then (attr_wrong.l0 k1 l0 (l0.length : Int) (wrap64 (x7_1 + 1))) else (some 41)) = some r := H
   have A11 := Aside0.mk A110; clear A110; by_cases c12 : t111 = true; rotate_left
   ·
    replace c12 := Bool.eq_false_iff.mpr c12
    subst c12
    have H1 : (some 41) = some r := by rw [if_neg (show ¬ (false = true) by decide)] at H; exact H
    clear H; have H := H1; clear H1
    obtain rfl := Option.some.inj H
    have p107 : 0 ≤ (x7_1 : Int) := of_decide_eq_true asm
    have q107 : x7_1 < (l0.length : Int) := of_decide_eq_true asm
    obtain ⟨ad107, e107, hx107_0, hx107_1, hx107_2⟩ := at_T33 HR0.out x7_1 p107 q107
    cases e107
    replace hx107_0 := bC HB hx107_0
    replace hx107_1 := bC HB hx107_1
    replace hx107_2 := bC HB hx107_2
    replace p107 := eq_true p107; replace q107 := eq_true q107
    go_wp2_with (first | ((with_reducible refine gate_dst (N := 4) rfl ?_); refine box_event ?hg (N := 4) ?hd (cs := #[.int .i64 0, .string (⟨#[]⟩ : ByteArray), .string (⟨#[]⟩ : ByteArray)]) (t := 33) ?hr ?_; (case hd => rfl); (case hg => rfl); (case hr => first | (go_simp; done) | (go_simp; rfl)); intro gb108 hg w16 hbox hb; have n0_ := Aside0.mk (below_step bO hb); have n1_ := Aside0.mk (hbox); have n2_ := Aside0.mk ((by rw [hg]; exact (below_size bO) : w.heap.size ≤ gb108)); have n3_ := Aside0.mk ((by rw [hg]; exact (below_size bO) : w.heap.size ≤ gb108)); clear HB; have HB := n0_; have BK108 := n1_; have GW108 := n2_; have GE108 := n3_; clear n0_ n1_ n2_ n3_; clear hb hbox hg; have hcz17_0 : w16.cell? ⟨gb108, 0, none⟩ = some (.int .i64 0) := (blk_cell BK108.out 0).trans rfl; have hcz17_1 : w16.cell? ⟨gb108, 1, none⟩ = some (.string (⟨#[]⟩ : ByteArray)) := (blk_cell BK108.out 1).trans rfl; have hcz17_2 : w16.cell? ⟨gb108, 2, none⟩ = some (.string (⟨#[]⟩ : ByteArray)) := (blk_cell BK108.out 2).trans rfl; have hfz17_0 := blk_frozen BK108.out 0; have hfz17_1 := blk_frozen BK108.out 1; have hfz17_2 := blk_frozen BK108.out 2) | ((with_reducible refine gate_callee (f := 92) rfl ?_); refine goesL_ (some 14) rfl rfl Tryz.func92 (by kernel_rfl) rfl #[.int .i64 ((rd_T33 l0 x7_1).f0)] rfl lR ?_; (with_reducible refine (attr_sign.calls ((rd_T33 l0 x7_1).f0) t109 _ A5.out).mono ?_); rintro e w' ⟨rfl, ⟨nd, rfl⟩⟩; refine ⟨_, rfl, ?_⟩) | ((with_reducible refine gate_callee (f := 52) rfl ?_); refine goesL_ (some 19) rfl rfl Tryz.func52 (by kernel_rfl) rfl #[.string ((rd_T33 l0 x7_1).f1)] rfl lR ?_; (with_reducible refine (attr_Key.calls k1 ((rd_T33 l0 x7_1).f1) true _ A9.out).mono ?_); rintro e w' ⟨rfl, ⟨nd, rfl⟩⟩; refine ⟨_, rfl, ?_⟩) | ((with_reducible refine gate_callee (f := 93) rfl ?_); refine goesL_ (some 24) rfl rfl Tryz.func93 (by kernel_rfl) rfl #[.string ((rd_T33 l0 x7_1).f2)] rfl lR ?_; (with_reducible refine (attr_plain.calls ((rd_T33 l0 x7_1).f2) false _ A11.out).mono ?_); rintro e w18 ⟨rfl, hb⟩; refine ⟨_, rfl, ?_⟩; have n0_ := Aside0.mk (blk_below (g := gb108) (o := .cells #[.int .i64 ((rd_T33 l0 x7_1).f0), .string ((rd_T33 l0 x7_1).f1), .string ((rd_T33 l0 x7_1).f2)] 33 (0, 0)) (by (with_reducible repeat (first | refine blk_drewN ?_ _ | refine blk_drew ?_ | refine blk_alloc ?_ _)); refine blk_put (cs := #[.int .i64 ((rd_T33 l0 x7_1).f0), .string ((rd_T33 l0 x7_1).f1), .string (⟨#[]⟩ : ByteArray)]) ?_ 2 _ rfl; (with_reducible repeat (first | refine blk_drewN ?_ _ | refine blk_drew ?_ | refine blk_alloc ?_ _)); refine blk_put (cs := #[.int .i64 ((rd_T33 l0 x7_1).f0), .string (⟨#[]⟩ : ByteArray), .string (⟨#[]⟩ : ByteArray)]) ?_ 1 _ rfl; (with_reducible repeat (first | refine blk_drewN ?_ _ | refine blk_drew ?_ | refine blk_alloc ?_ _)); refine blk_put (cs := #[.int .i64 0, .string (⟨#[]⟩ : ByteArray), .string (⟨#[]⟩ : ByteArray)]) ?_ 0 _ rfl; (with_reducible repeat (first | refine blk_drewN ?_ _ | refine blk_drew ?_ | refine blk_alloc ?_ _)); exact BK108.out) hb); have n1_ := Aside0.mk (below_step bO hb); clear BK108; clear HB; have BK108 := n0_; have HB := n1_; clear n0_ n1_; (try clear hb); (try clear hb2); (try clear hk); (try clear hi)))
    go_ret
    exact ⟨eR, bO⟩
   subst c12
   have H1 : (attr_wrong.l0 k1 l0 (l0.length : Int) (wrap64 (x7_1 + 1))) = some r := by rw [if_pos rfl] at H; exact H
   clear H; have H := H1; clear H1; have H' := Aside0.mk H; clear H
   have p107 : 0 ≤ (x7_1 : Int) := of_decide_eq_true asm
   have q107 : x7_1 < (l0.length : Int) := of_decide_eq_true asm
   obtain ⟨ad107, e107, hx107_0, hx107_1, hx107_2⟩ := at_T33 HR0.out x7_1 p107 q107
   cases e107
   replace hx107_0 := bC HB hx107_0
   replace hx107_1 := bC HB hx107_1
   replace hx107_2 := bC HB hx107_2
   replace p107 := eq_true p107; replace q107 := eq_true q107
   go_wp2_with (first | ((with_reducible refine gate_dst (N := 4) rfl ?_); refine box_event ?hg (N := 4) ?hd (cs := #[.int .i64 0, .string (⟨#[]⟩ : ByteArray), .string (⟨#[]⟩ : ByteArray)]) (t := 33) ?hr ?_; (case hd => rfl); (case hg => rfl); (case hr => first | (go_simp; done) | (go_simp; rfl)); intro gb108 hg w13 hbox hb; have n0_ := Aside0.mk (below_step bO hb); have n1_ := Aside0.mk (hbox); have n2_ := Aside0.mk ((by rw [hg]; exact (below_size bO) : w.heap.size ≤ gb108)); have n3_ := Aside0.mk ((by rw [hg]; exact (below_size bO) : w.heap.size ≤ gb108)); clear HB; have HB := n0_; have BK108 := n1_; have GW108 := n2_; have GE108 := n3_; clear n0_ n1_ n2_ n3_; clear hb hbox hg; have hcz14_0 : w13.cell? ⟨gb108, 0, none⟩ = some (.int .i64 0) := (blk_cell BK108.out 0).trans rfl; have hcz14_1 : w13.cell? ⟨gb108, 1, none⟩ = some (.string (⟨#[]⟩ : ByteArray)) := (blk_cell BK108.out 1).trans rfl; have hcz14_2 : w13.cell? ⟨gb108, 2, none⟩ = some (.string (⟨#[]⟩ : ByteArray)) := (blk_cell BK108.out 2).trans rfl; have hfz14_0 := blk_frozen BK108.out 0; have hfz14_1 := blk_frozen BK108.out 1; have hfz14_2 := blk_frozen BK108.out 2) | ((with_reducible refine gate_callee (f := 92) rfl ?_); refine goesL_ (some 14) rfl rfl Tryz.func92 (by kernel_rfl) rfl #[.int .i64 ((rd_T33 l0 x7_1).f0)] rfl lR ?_; (with_reducible refine (attr_sign.calls ((rd_T33 l0 x7_1).f0) t109 _ A5.out).mono ?_); rintro e w' ⟨rfl, ⟨nd, rfl⟩⟩; refine ⟨_, rfl, ?_⟩) | ((with_reducible refine gate_callee (f := 52) rfl ?_); refine goesL_ (some 19) rfl rfl Tryz.func52 (by kernel_rfl) rfl #[.string ((rd_T33 l0 x7_1).f1)] rfl lR ?_; (with_reducible refine (attr_Key.calls k1 ((rd_T33 l0 x7_1).f1) true _ A9.out).mono ?_); rintro e w' ⟨rfl, ⟨nd, rfl⟩⟩; refine ⟨_, rfl, ?_⟩) | ((with_reducible refine gate_callee (f := 93) rfl ?_); refine goesL_ (some 24) rfl rfl Tryz.func93 (by kernel_rfl) rfl #[.string ((rd_T33 l0 x7_1).f2)] rfl lR ?_; (with_reducible refine (attr_plain.calls ((rd_T33 l0 x7_1).f2) true _ A11.out).mono ?_); rintro e w15 ⟨rfl, hb⟩; refine ⟨_, rfl, ?_⟩; have n0_ := Aside0.mk (blk_below (g := gb108) (o := .cells #[.int .i64 ((rd_T33 l0 x7_1).f0), .string ((rd_T33 l0 x7_1).f1), .string ((rd_T33 l0 x7_1).f2)] 33 (0, 0)) (by (with_reducible repeat (first | refine blk_drewN ?_ _ | refine blk_drew ?_ | refine blk_alloc ?_ _)); refine blk_put (cs := #[.int .i64 ((rd_T33 l0 x7_1).f0), .string ((rd_T33 l0 x7_1).f1), .string (⟨#[]⟩ : ByteArray)]) ?_ 2 _ rfl; (with_reducible repeat (first | refine blk_drewN ?_ _ | refine blk_drew ?_ | refine blk_alloc ?_ _)); refine blk_put (cs := #[.int .i64 ((rd_T33 l0 x7_1).f0), .string (⟨#[]⟩ : ByteArray), .string (⟨#[]⟩ : ByteArray)]) ?_ 1 _ rfl; (with_reducible repeat (first | refine blk_drewN ?_ _ | refine blk_drew ?_ | refine blk_alloc ?_ _)); refine blk_put (cs := #[.int .i64 0, .string (⟨#[]⟩ : ByteArray), .string (⟨#[]⟩ : ByteArray)]) ?_ 0 _ rfl; (with_reducible repeat (first | refine blk_drewN ?_ _ | refine blk_drew ?_ | refine blk_alloc ?_ _)); exact BK108.out) hb); have n1_ := Aside0.mk (below_step bO hb); clear BK108; clear HB; have BK108 := n0_; have HB := n1_; clear n0_ n1_; (try clear hb); (try clear hb2); (try clear hk); (try clear hi)))
   go_roundg k1
   case measure => have := HK1.out; omega
   case rel => exact ⟨(wrap64 (x7_1 + 1)), sR, H', ⟨by have := HK1.out; omega⟩, ⟨bO⟩⟩
def attr_RightMatch.f (k : Nat) (l0 : List (S33)) : Option (Int) := if (l0.length : Int) > 8 then (some 7) else ((attr_wrong.f k l0).bind fun t112 => (some t112))
set_option maxHeartbeats 8000000 in
set_option maxRecDepth 100000 in
theorem attr_RightMatch.calls (k : Nat) (A0 : Option Addr) (c0 : Nat) (l0 : List (S33)) (r : Int) (w : World) (hr0 : Kd.C k33 w A0 l0.length l0) (hc0 : l0.length ≤ c0) (h : attr_RightMatch.f k l0 = some r) (he_ : EnvW w := by repeat (first | with_reducible assumption | with_reducible exact env_of (by with_reducible assumption) (by with_reducible assumption) | with_reducible exact env_out (by with_reducible assumption) | with_reducible apply env_alloc | with_reducible apply env_drewN | with_reducible apply env_drew | with_reducible refine env_set ?_ (by with_reducible assumption) (by with_reducible assumption))) :
  Calls Tryz.prog 49 #[.slice A0 l0.length c0] w fun e w' => e = .returned (.int .i64 r) ∧ Below w.heap.size w w' := by
 have HE_ := Aside0.mk he_; clear he_; have HR0 := Aside0.mk hr0; have HC0 := Aside0.mk hc0; clear hr0 hc0; have HB := Aside0.mk (Below.refl w.heap.size w)
 have H : (if (l0.length : Int) > 8 then (some 7) else ((attr_wrong.f k l0).bind fun t112 => (some t112))) = some r := h
 clear h; by_cases c2 : (l0.length : Int) > 8
 ·
  rw [if_pos c2] at H
  have c2b0 : decide (8 < (l0.length : Int)) = true := decide_eq_true c2
  have c2b1 : decide (8 < l0.length) = true := decide_eq_true (by omega)
  clear c2
  obtain rfl := Option.some.inj H
  go_enter Tryz.func49, Tryz.ntmps49
  go_wp2; go_ret
  exact ⟨eR, bO⟩
 rw [if_neg c2] at H
 have c2b0 : decide (8 < (l0.length : Int)) = false := decide_eq_false c2
 have c2b1 : decide (8 < l0.length) = false := decide_eq_false (by omega)
 clear c2
 replace H := Option.bind_eq_some_iff.mp H
 obtain ⟨t112, A30, H⟩ := H
 replace H : (some t112) = some r := H
 have A3 := Aside0.mk A30; clear A30
 obtain rfl := Option.some.inj H
 go_enter Tryz.func49, Tryz.ntmps49
 go_wp2_with (first | ((with_reducible refine gate_callee (f := 63) rfl ?_); refine goesL_ (some 7) rfl rfl Tryz.func63 (by kernel_rfl) rfl #[.slice A0 l0.length c0] rfl lR ?_; (with_reducible refine (attr_wrong.calls k _ _ l0 t112 _ ?side1 ?side2 A3.out).mono ?_); (case side1 => repeat (first | exact HR0.out | (with_reducible refine Kd.C_alloc ?_ _) | (with_reducible refine Kd.C_drewN ?_ _) | (with_reducible refine Kd.C_drew ?_))); (case side2 => exact HC0.out); rintro e w4 ⟨rfl, hb⟩; refine ⟨_, rfl, ?_⟩; have n0_ := Aside0.mk (below_step bO hb); clear HB; have HB := n0_; clear n0_; (try clear hb); (try clear hb2); (try clear hk); (try clear hi)))
 go_ret
 exact ⟨eR, bO⟩
def policy_Right_1.f (k : Nat) (a0 : ByteArray) : Option (Bool) := (attr_Key.f k a0).bind fun t113 => (some (!t113))
set_option maxHeartbeats 8000000 in
set_option maxRecDepth 100000 in
theorem policy_Right_1.calls (k : Nat) (a0 : ByteArray) (r : Bool) (w : World) (h : policy_Right_1.f k a0 = some r) :
  Calls Tryz.prog 51 #[.string a0] w fun e w' => e = .returned (.bool r) ∧ Drawn0 w w' := by
 have H : ((attr_Key.f k a0).bind fun t113 => (some (!t113))) = some r := h
 clear h
 replace H := Option.bind_eq_some_iff.mp H
 obtain ⟨t113, A20, H⟩ := H
 replace H : (some (!t113)) = some r := H
 have A2 := Aside0.mk A20; clear A20
 obtain rfl := Option.some.inj H
 go_enter Tryz.func51, Tryz.ntmps51
 go_wp2_with (first | ((with_reducible refine gate_callee (f := 52) rfl ?_); refine goesL_ (some 4) rfl rfl Tryz.func52 (by kernel_rfl) rfl #[.string a0] rfl lR ?_; (with_reducible refine (attr_Key.calls k a0 t113 _ A2.out).mono ?_); rintro e w' ⟨rfl, ⟨nd, rfl⟩⟩; refine ⟨_, rfl, ?_⟩))
 go_ret
 exact ⟨sR, dR⟩
def slices_IndexFunc_string_string.l0 : Nat → List ByteArray → Int → Int → Option (Int)
  | 0, _, _, _ => none
  | k + 1, x0, x7, x8 => if x8 < x7 then (if 0 ≤ x8 then (if x8 < (x0.length : Int) then ((policy_Right_1.f k (rdOf ByteArray.empty x0 x8)).bind fun t115 => (if t115 = true then (some x8) else (slices_IndexFunc_string_string.l0 k x0 x7 (wrap64 (x8 + 1))))) else (none)) else (none)) else (some (-1))
def slices_IndexFunc_string_string.f (k : Nat) (l0 : List ByteArray)  : Option (Int) := slices_IndexFunc_string_string.l0 k l0 (l0.length : Int) 0
set_option maxHeartbeats 8000000 in
set_option maxRecDepth 100000 in
theorem slices_IndexFunc_string_string.calls (k : Nat) (A0 : Option Addr) (c0 : Nat) (l0 : List ByteArray)  (r : Int) (w : World) (hr0 : Kd.C Kd.string w A0 l0.length l0) (hc0 : l0.length ≤ c0) (h : slices_IndexFunc_string_string.f k l0 = some r) :
  Calls Tryz.prog 84 #[.slice A0 l0.length c0, .func (.func 51) #[] #[]] w fun e w' => e = .returned (.int .i64 r) ∧ Drawn0 w w' := by
 have HR0 := Aside0.mk hr0; have HC0 := Aside0.mk hc0; clear hr0 hc0
 have H : (slices_IndexFunc_string_string.l0 k l0 (l0.length : Int) 0) = some r := h
 clear h; have H' := Aside0.mk H; clear H
 go_enter Tryz.func84, Tryz.ntmps84
 go_wp2
 go_loopg [8] k (fun kq v8 w' => ∃ (x8_1 : Int), v8 = .int .i64 x8_1 ∧ Aside0 (slices_IndexFunc_string_string.l0 kq l0 (l0.length : Int) x8_1 = some r) ∧ Aside0 (kq ≤ k) ∧ Drawn0 w w')
 case atStart => exact ⟨(0), sR, H', ⟨Nat.le_refl _⟩, dR⟩
 case round =>
  clear H'; (try clear p2)
  obtain ⟨x8_1, rfl, HA, HK1, ⟨m1, rfl⟩⟩ := hrel
  cases gk with
  | zero => exact absurd HA.out (by simp [slices_IndexFunc_string_string.l0])
  | succ k1 =>
   have H := HA.out; clear HA
   simp only [slices_IndexFunc_string_string.l0] at H
   by_cases c3 : x8_1 < (l0.length : Int); rotate_left
   ·
    rw [if_neg c3] at H
    have c3b0 : decide (x8_1 < (l0.length : Int)) = false := decide_eq_false c3
    clear c3
    obtain rfl := Option.some.inj H
    go_wp2; go_ret
    exact ⟨sR, dR⟩
   rw [if_pos c3] at H
   have c3b0 : decide (x8_1 < (l0.length : Int)) = true := decide_eq_true c3
   clear c3; by_cases c4 : 0 ≤ x8_1; rotate_left
   · rw [if_neg c4] at H; exact absurd H (by simp)
   rw [if_pos c4] at H
   have c4b0 : decide (0 ≤ x8_1) = true := decide_eq_true c4
   clear c4; by_cases c5 : x8_1 < (l0.length : Int); rotate_left
   · rw [if_neg c5] at H; exact absurd H (by simp)
   rw [if_pos c5] at H
   have c5b0 : decide (x8_1 < (l0.length : Int)) = true := decide_eq_true c5
   clear c5
   replace H := Option.bind_eq_some_iff.mp H
   obtain ⟨t115, A60, H⟩ := H
   replace H : (if t115 = true then (some x8_1) else (slices_IndexFunc_string_string.l0 k1 l0 (l0.length : Int) (wrap64 (x8_1 + 1)))) = some r := H
   have A6 := Aside0.mk A60; clear A60; by_cases c7 : t115 = true
   ·
    subst c7
    have H1 : (some x8_1) = some r := by rw [if_pos rfl] at H; exact H
    clear H; have H := H1; clear H1
    obtain rfl := Option.some.inj H
    have p114 : 0 ≤ (x8_1 : Int) := of_decide_eq_true asm
    have q114 : x8_1 < (l0.length : Int) := of_decide_eq_true asm
    obtain ⟨ad114, e114, hx114_0⟩ := Kd.at_string HR0.out x8_1 p114 q114
    cases e114; replace p114 := eq_true p114; replace q114 := eq_true q114
    go_wp2_with (first | (go_at_call 51; (with_reducible refine (policy_Right_1.calls k1 (rdOf ByteArray.empty l0 x8_1) true _ A6.out).mono ?_); rintro e w' ⟨rfl, ⟨nd, rfl⟩⟩))
    go_ret
    exact ⟨sR, dR⟩
   replace c7 := Bool.eq_false_iff.mpr c7
   subst c7
   have H1 : (slices_IndexFunc_string_string.l0 k1 l0 (l0.length : Int) (wrap64 (x8_1 + 1))) = some r := by rw [if_neg (show ¬ (false = true) by decide)] at H; exact H
   clear H; have H := H1; clear H1; have H' := Aside0.mk H; clear H
   have p114 : 0 ≤ (x8_1 : Int) := of_decide_eq_true asm
   have q114 : x8_1 < (l0.length : Int) := of_decide_eq_true asm
   obtain ⟨ad114, e114, hx114_0⟩ := Kd.at_string HR0.out x8_1 p114 q114
   cases e114; replace p114 := eq_true p114; replace q114 := eq_true q114
   go_wp2_with (first | (go_at_call 51; (with_reducible refine (policy_Right_1.calls k1 (rdOf ByteArray.empty l0 x8_1) false _ A6.out).mono ?_); rintro e w' ⟨rfl, ⟨nd, rfl⟩⟩))
   go_roundg k1
   case measure => have := HK1.out; omega
   case rel => exact ⟨(wrap64 (x8_1 + 1)), sR, H', ⟨by have := HK1.out; omega⟩, dR⟩
def slices_ContainsFunc_string_string.f (k : Nat) (l0 : List ByteArray)  : Option (Bool) := (slices_IndexFunc_string_string.f k l0).bind fun t116 => (some (decide (t116 ≥ 0)))
set_option maxHeartbeats 8000000 in
set_option maxRecDepth 100000 in
theorem slices_ContainsFunc_string_string.calls (k : Nat) (A0 : Option Addr) (c0 : Nat) (l0 : List ByteArray)  (r : Bool) (w : World) (hr0 : Kd.C Kd.string w A0 l0.length l0) (hc0 : l0.length ≤ c0) (h : slices_ContainsFunc_string_string.f k l0 = some r) :
  Calls Tryz.prog 50 #[.slice A0 l0.length c0, .func (.func 51) #[] #[]] w fun e w' => e = .returned (.bool r) ∧ Drawn0 w w' := by
 have HR0 := Aside0.mk hr0; have HC0 := Aside0.mk hc0; clear hr0 hc0
 have H : ((slices_IndexFunc_string_string.f k l0).bind fun t116 => (some (decide (t116 ≥ 0)))) = some r := h
 clear h
 replace H := Option.bind_eq_some_iff.mp H
 obtain ⟨t116, A30, H⟩ := H
 replace H : (some (decide (t116 ≥ 0))) = some r := H
 have A3 := Aside0.mk A30; clear A30
 obtain rfl := Option.some.inj H
 go_enter Tryz.func50, Tryz.ntmps50
 go_wp2_with (first | ((with_reducible refine gate_callee (f := 84) rfl ?_); refine goesL_ (some 7) rfl rfl Tryz.func84 (by kernel_rfl) rfl #[.slice A0 l0.length c0, .func (.func 51) #[] #[]] rfl lR ?_; (with_reducible refine (slices_IndexFunc_string_string.calls k _ _ l0  t116 _ ?side1 ?side2 A3.out).mono ?_); (case side1 => repeat (first | exact HR0.out | (with_reducible refine Kd.C_alloc ?_ _) | (with_reducible refine Kd.C_drewN ?_ _) | (with_reducible refine Kd.C_drew ?_))); (case side2 => exact HC0.out); rintro e w' ⟨rfl, ⟨nd, rfl⟩⟩; refine ⟨_, rfl, ?_⟩))
 go_ret
 exact ⟨sR, dR⟩
end Go.Proofs.YtkedidjjhhjdbaaGreatDoor.Pr
end
section
set_option linter.unusedVariables false
set_option linter.unusedSimpArgs false
namespace Go.Proofs.YtkedidjjhhjdbaaGreatDoor.Pr
open Go.RowKit Go.Proofs.YtkedidjjhhjdbaaGreatDoorW.PrintWords Go.Proofs.YtkedidjjhhjdbaaGreatDoorW.PrintLast Go.Proofs.YtkedidjjhhjdbaaGreatDoorW.PrintMore
theorem wrap_small {n : Int} (h0 : -9223372036854775808 ≤ n) (h1 : n < 9223372036854775808) : wrap64 n = n := by unfold wrap64; omega
def inr (c lo hi : Int) : Bool := decide (lo ≤ c) && decide (c ≤ hi)
theorem bt_drop (s : ByteArray) (i j : Nat) : bt s ((i : Int) + (j : Int)) = ((((s.data.toList.drop i).getD j 0).toNat : Nat) : Int) := by
 unfold bt
 have e : ((i : Int) + (j : Int)).toNat = i + j := by omega
 by_cases h : ((i : Int) + (j : Int)).toNat < s.size; rotate_left
 ·
  rw [dif_neg h]
  have hl : s.data.toList.length ≤ i + j := by rw [Array.length_toList]; rw [e] at h; exact Nat.le_of_not_lt h
  have : (s.data.toList.drop i).getD j 0 = 0 := by
   rw [List.getD_eq_getElem?_getD, List.getElem?_drop, List.getElem?_eq_none hl]; rfl
  rw [this]; rfl
 rw [dif_pos h]
 have hl : i + j < s.data.toList.length := by rw [Array.length_toList]; rw [e] at h; exact h
 have : (s.data.toList.drop i).getD j 0 = s.data.toList[i + j] := by
  rw [List.getD_eq_getElem?_getD, List.getElem?_drop, List.getElem?_eq_getElem hl]; rfl
 rw [this]
 congr 2
theorem m1 {p : Prop} [Decidable p] {x : Bool} (hx : x = decide (¬ p)) (v : Nat → Bool) (n : Nat) : (x && v n) = match (if p then none else some n : Option Nat) with | none => false | some k => v k := by
 subst hx
 by_cases h : p <;> simp [h]
end Go.Proofs.YtkedidjjhhjdbaaGreatDoor.Pr
end
section
set_option linter.unusedVariables false
set_option linter.unusedSimpArgs false
namespace Go.Proofs.YtkedidjjhhjdbaaGreatDoor.Pr
open Go.RowKit Go.Proofs.YtkedidjjhhjdbaaGreatDoorW.PrintWords Go.Proofs.YtkedidjjhhjdbaaGreatDoorW.PrintLast Go.Proofs.YtkedidjjhhjdbaaGreatDoorW.PrintMore
def Ev {α : Type} (f : Nat → Option α) (v : α) : Prop := ∃ K, ∀ k, K ≤ k → f k = some v
theorem Ev.bind {α β : Type} {f : Nat → Option α} {g : Nat → α → Option β} {v : α} {r : β} (h : Ev f v) (h' : Ev (fun k => g k v) r) : Ev (fun k => (f k).bind (g k)) r := by
 obtain ⟨K, hK⟩ := h
 obtain ⟨L, hL⟩ := h'
 exact ⟨K + L, fun k hk => by show (f k).bind (g k) = _; rw [hK k (by omega), Option.bind_some]; exact hL k (by omega)⟩
theorem Ev.const {α : Type} {v : α} {f : Option α} (h : f = some v) : Ev (fun _ => f) v := ⟨0, fun _ _ => h⟩
theorem Ev.succ {α : Type} {f g : Nat → Option α} {v : α} (h : Ev g v) (e : ∀ k, f (k + 1) = g k) : Ev f v := by
 obtain ⟨K, hK⟩ := h
 refine ⟨K + 1, fun k hk => ?_⟩
 obtain ⟨k, rfl⟩ : ∃ j, k = j + 1 := ⟨k - 1, by omega⟩
 rw [e]; exact hK k (by omega)
theorem rd_at33 (l : List S33) (i : Nat) (h : i < l.length) : rd_T33 l (i : Int) = l[i] := by simp [rd_T33, h]
theorem drop_cons33 {α : Type} (l : List α) (i : Nat) (h : i < l.length) : l.drop i = l[i] :: l.drop (i + 1) := List.drop_eq_getElem_cons h
def chN (c : Int) : Bool := (decide (97 ≤ c) && decide (c ≤ 122)) || (decide (48 ≤ c) && decide (c ≤ 57)) || c == 45
def cutN : ByteArray := ⟨#[97, 98, 99, 100, 101, 102, 103, 104, 105, 106, 107, 108, 109, 110, 111, 112, 113, 114, 115, 116, 117, 118, 119, 120, 121, 122, 48, 49, 50, 51, 52, 53, 54, 55, 56, 57, 45]⟩
theorem in_cutN (b : UInt8) : cutN.data.toList.contains b = chN (b.toNat : Int) := by
 have h : ((List.range 256).all fun n => cutN.data.toList.contains (UInt8.ofNat n) == chN ((UInt8.ofNat n).toNat : Int)) = true := by kernel_rfl
 have := List.all_eq_true.1 h b.toNat (List.mem_range.2 (UInt8.toNat_lt b))
 rw [UInt8.ofNat_toNat] at this; exact eq_of_beq this
theorem dropWhile_nil {α : Type} (p : α → Bool) : ∀ l : List α, l.dropWhile p = [] ↔ l.all p = true
 | [] => by simp
 | x :: l => by
  rw [List.dropWhile_cons, List.all_cons]
  cases h : p x with
  | true => simp [dropWhile_nil p l]
  | false => simp
theorem dropWhile_head {α : Type} (p : α → Bool) : ∀ (l : List α) x m, l.dropWhile p = x :: m → p x = false
 | [], x, m, h => by cases h
 | y :: l, x, m, h => by
  rw [List.dropWhile_cons] at h
  cases hp : p y with
  | true => rw [hp, if_pos rfl] at h; exact dropWhile_head p l x m h
  | false => rw [hp, if_neg (by simp)] at h; cases h; exact hp
theorem trimS_nil (l cs : List UInt8) : Lib.trimS l cs = [] ↔ l.all (fun b => cs.contains b) = true := by
 unfold Lib.trimS Lib.trimLeftS
 rw [dropWhile_nil]
 unfold Lib.trimRightS
 rw [List.all_reverse]
 constructor
 rotate_left
 ·
  intro h
  rw [(dropWhile_nil _ _).2 (by rwa [List.all_reverse])]
  rfl
 intro h
 cases hd : l.reverse.dropWhile (fun b => cs.contains b) with
 | nil =>
  have := (dropWhile_nil _ _).1 hd
  rwa [List.all_reverse] at this
 | cons x m =>
  have := dropWhile_head _ _ _ _ hd
  have h2 : ((x :: m).all fun b => cs.contains b) = true := by rw [← hd]; exact h
  rw [List.all_cons, this] at h2; cases h2
def nameB (s : ByteArray) : Bool := decide (1 ≤ s.size) && decide (s.size ≤ 32) && (decide (97 ≤ bt s 0) && decide (bt s 0 ≤ 122)) && s.data.toList.all (fun b => chN (b.toNat : Int))
theorem name_eq (s : ByteArray) : policy_name.f s = some (nameB s) := by
 unfold policy_name.f nameB
 by_cases h0 : s.size = 0
 · rw [if_pos (toList_nil.2 h0)]; simp [h0]
 rw [if_neg (fun h => h0 (toList_nil.1 h)), decide_eq_true (show 1 ≤ s.size by omega)]
 by_cases h32 : (s.size : Int) > 32
 · rw [if_pos h32, decide_eq_false (show ¬ s.size ≤ 32 by omega)]; rfl
 rw [if_neg h32, decide_eq_true (show s.size ≤ 32 by omega), if_pos (by omega)]
 by_cases ha : bt s 0 < 97
 · rw [if_pos ha, decide_eq_false (show ¬ 97 ≤ bt s 0 by omega)]; rfl
 rw [if_neg ha, decide_eq_true (show 97 ≤ bt s 0 by omega)]
 by_cases hz : bt s 0 > 122
 · rw [if_pos hz, decide_eq_false (show ¬ bt s 0 ≤ 122 by omega)]; rfl
 rw [if_neg hz, decide_eq_true (show bt s 0 ≤ 122 by omega)]
 show (strings_Trim.f s cutN).bind _ = _
 have hf : strings_Trim.f s cutN = some ⟨(Lib.trimS s.data.toList cutN.data.toList).toArray⟩ := by
  unfold strings_Trim.f
  rw [if_pos ⟨by omega, by decide, by decide⟩]
 rw [hf, Option.bind_some]
 congr 1
 simp only [Bool.true_and]
 have e : (s.data.toList.all fun b => chN (b.toNat : Int)) = s.data.toList.all fun b => cutN.data.toList.contains b := by
  congr 1; funext b; exact (in_cutN b).symm
 rw [e, Bool.eq_iff_iff, beq_iff_eq, Lib.toList_data, ← trimS_nil]
theorem bt_nat (s : ByteArray) (i : Nat) (h : i < s.data.toList.length) : bt s (i : Int) = ((s.data.toList[i]'h).toNat : Int) := by
 have := bt_drop s i 0
 rw [show (i : Int) + ((0 : Nat) : Int) = (i : Int) by omega] at this
 rw [this, List.getD_eq_getElem?_getD, List.getElem?_drop, Nat.add_zero, List.getElem?_eq_getElem h]; rfl
def plainB (s : ByteArray) : Bool := decide (s.size ≤ 256) && Lib.validD s.data.toList
theorem plain_eq (s : ByteArray) : attr_plain.f s = some (plainB s) := by
 unfold attr_plain.f utf8_ValidString.f plainB
 by_cases h : (s.size : Int) ≤ 256; rotate_left
 · rw [if_neg h, decide_eq_false (show ¬ s.size ≤ 256 by omega)]; rfl
 rw [if_pos h, decide_eq_true (show s.size ≤ 256 by omega), if_pos (by omega)]; rfl
def wrongL : List S33 → Int
  | [] => 0
  | x :: m => if x.f0 < 1 ∨ 4 < x.f0 then 42 else if keyB x.f1 then (if plainB x.f2 then wrongL m else 41) else 40
theorem sign_nil (c : Int) : ∃ b, attr_sign.f c = some b ∧ (b.toList = ([] : List UInt8) ↔ c < 1 ∨ 4 < c) := by
 unfold attr_sign.f
 by_cases h1 : c = 1
 · exact ⟨_, if_pos h1, by simp [Lib.toList_data]; omega⟩
 rw [if_neg h1]; by_cases h2 : c = 2
 · exact ⟨_, if_pos h2, by simp [Lib.toList_data]; omega⟩
 rw [if_neg h2]; by_cases h3 : c = 3
 · exact ⟨_, if_pos h3, by simp [Lib.toList_data]; omega⟩
 rw [if_neg h3]; by_cases h4 : c = 4
 · exact ⟨_, if_pos h4, by simp [Lib.toList_data]; omega⟩
 exact ⟨_, if_neg h4, by simp [Lib.toList_data]; omega⟩
theorem wrong_l0 (m : List S33) (hm : m.length < 4611686018427387904) : ∀ (n i : Nat), i + n = m.length → ∀ k, n + 70 < k → attr_wrong.l0 k m (m.length : Int) (i : Int) = some (wrongL (m.drop i))
 | _, _, _, 0, hk => absurd hk (by omega)
 | 0, i, hn, k + 1, hk => by
  rw [attr_wrong.l0, if_neg (by omega), List.drop_of_length_le (show m.length ≤ i by omega)]; rfl
 | n + 1, i, hn, k + 1, hk => by
  have hi : i < m.length := by omega
  obtain ⟨b, hb, hbn⟩ := sign_nil m[i].f0
  rw [attr_wrong.l0, if_pos (by omega), if_pos (by omega), if_pos (by omega), rd_at33 m i hi, hb, Option.bind_some, drop_cons33 m i hi, wrongL, wrap_small (n := (i : Int) + 1) (by omega) (by omega), show (i : Int) + 1 = ((i + 1 : Nat) : Int) by omega, wrong_l0 m hm n (i + 1) (by omega) k (by omega), key_eq _ k (by omega), Option.bind_some, plain_eq, Option.bind_some]
  by_cases h : m[i].f0 < 1 ∨ 4 < m[i].f0
  · rw [if_pos (hbn.2 h), if_pos h]
  rw [if_neg (fun e => h (hbn.1 e)), if_neg h]
  cases keyB m[i].f1 <;> cases plainB m[i].f2 <;> simp
theorem wrong_ev (m : List S33) (hm : m.length < 4611686018427387904) : Ev (fun k => attr_wrong.f k m) (wrongL m) := by
 refine ⟨m.length + 71, fun k hk => ?_⟩
 have := wrong_l0 m hm m.length 0 (by omega) k (by omega)
 exact this
def rightM (m : List S33) : Int := if (m.length : Int) > 8 then 7 else wrongL m
theorem rightM_ev (m : List S33) : Ev (fun k => attr_RightMatch.f k m) (rightM m) := by
 unfold attr_RightMatch.f rightM
 by_cases h : (m.length : Int) > 8
 · simp only [if_pos h]; exact Ev.const rfl
 simp only [if_neg h]
 exact Ev.bind (wrong_ev m (by omega)) (Ev.const rfl)
end Go.Proofs.YtkedidjjhhjdbaaGreatDoor.Pr
end
section
namespace Go.Proofs.YtkedidjjhhjdbaaGreatDoor.Pr
open Go.RowKit Go.Proofs.YtkedidjjhhjdbaaGreatDoorW.PrintWords Go.Proofs.YtkedidjjhhjdbaaGreatDoorW.PrintLast Go.Proofs.YtkedidjjhhjdbaaGreatDoorW.PrintMore
attribute [local go_sem] max2_int min2_int max_two min_two max_three min_three max_four min_four strGtr strLeq strGeq
set_option linter.unusedVariables false
set_option linter.unusedSimpArgs false
def policy_Kind.f (a0 : Int) : Option (ByteArray) := if a0 = 0 then (some (⟨#[97, 110, 121]⟩ : ByteArray)) else (if a0 = 1 then (some (⟨#[109, 101, 116, 114, 105, 99, 115]⟩ : ByteArray)) else (if a0 = 2 then (some (⟨#[108, 111, 103, 115]⟩ : ByteArray)) else (if a0 = 3 then (some (⟨#[116, 114, 97, 99, 101, 115]⟩ : ByteArray)) else (some (⟨#[]⟩ : ByteArray)))))
set_option maxHeartbeats 8000000 in
set_option maxRecDepth 100000 in
theorem policy_Kind.calls (a0 : Int) (r : ByteArray) (w : World) (h : policy_Kind.f a0 = some r) :
  Calls Tryz.prog 19 #[.int .i64 a0] w fun e w' => e = .returned (.string r) ∧ Drawn0 w w' := by
 have H : (if a0 = 0 then (some (⟨#[97, 110, 121]⟩ : ByteArray)) else (if a0 = 1 then (some (⟨#[109, 101, 116, 114, 105, 99, 115]⟩ : ByteArray)) else (if a0 = 2 then (some (⟨#[108, 111, 103, 115]⟩ : ByteArray)) else (if a0 = 3 then (some (⟨#[116, 114, 97, 99, 101, 115]⟩ : ByteArray)) else (some (⟨#[]⟩ : ByteArray)))))) = some r := h
 clear h; by_cases c2 : a0 = 0
 ·
  rw [if_pos c2] at H
  have c2b0 : (a0 == 0) = true := beq_iff_eq.mpr c2
  have c2b1 : (a0 != 0) = false := bne_eq_false_iff_eq.mpr c2
  clear c2
  obtain rfl := Option.some.inj H
  go_enter Tryz.func19, Tryz.ntmps19
  go_wp2; go_ret
  exact ⟨sR, dR⟩
 rw [if_neg c2] at H
 have c2b0 : (a0 == 0) = false := beq_eq_false_iff_ne.mpr c2
 have c2b1 : (a0 != 0) = true := bne_iff_ne.mpr c2
 by_cases c3 : a0 = 1
 ·
  rw [if_pos c3] at H
  have c3b0 : (a0 == 1) = true := beq_iff_eq.mpr c3
  have c3b1 : (a0 != 1) = false := bne_eq_false_iff_eq.mpr c3
  clear c3
  obtain rfl := Option.some.inj H
  go_enter Tryz.func19, Tryz.ntmps19
  go_wp2; go_ret
  exact ⟨sR, dR⟩
 rw [if_neg c3] at H
 have c3b0 : (a0 == 1) = false := beq_eq_false_iff_ne.mpr c3
 have c3b1 : (a0 != 1) = true := bne_iff_ne.mpr c3
 by_cases c4 : a0 = 2
 ·
  rw [if_pos c4] at H
  have c4b0 : (a0 == 2) = true := beq_iff_eq.mpr c4
  have c4b1 : (a0 != 2) = false := bne_eq_false_iff_eq.mpr c4
  clear c4
  obtain rfl := Option.some.inj H
  go_enter Tryz.func19, Tryz.ntmps19
  go_wp2; go_ret
  exact ⟨sR, dR⟩
 rw [if_neg c4] at H
 have c4b0 : (a0 == 2) = false := beq_eq_false_iff_ne.mpr c4
 have c4b1 : (a0 != 2) = true := bne_iff_ne.mpr c4
 by_cases c5 : a0 = 3; rotate_left
 ·
  rw [if_neg c5] at H
  have c5b0 : (a0 == 3) = false := beq_eq_false_iff_ne.mpr c5
  have c5b1 : (a0 != 3) = true := bne_iff_ne.mpr c5
  obtain rfl := Option.some.inj H
  go_enter Tryz.func19, Tryz.ntmps19
  go_wp2; go_ret
  exact ⟨sR, dR⟩
 rw [if_pos c5] at H
 have c5b0 : (a0 == 3) = true := beq_iff_eq.mpr c5
 have c5b1 : (a0 != 3) = false := bne_eq_false_iff_eq.mpr c5
 clear c5
 obtain rfl := Option.some.inj H
 go_enter Tryz.func19, Tryz.ntmps19
 go_wp2; go_ret
 exact ⟨sR, dR⟩
end Go.Proofs.YtkedidjjhhjdbaaGreatDoor.Pr
end
