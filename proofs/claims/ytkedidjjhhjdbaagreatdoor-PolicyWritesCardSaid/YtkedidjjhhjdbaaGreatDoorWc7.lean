import Derived.Test.YtkedidjjhhjdbaaGreatDoorWc0
import Derived.Test.YtkedidjjhhjdbaaGreatDoorWc5
import Derived.Test.YtkedidjjhhjdbaaGreatDoorWc6
section
namespace Go.Proofs.YtkedidjjhhjdbaaGreatDoor.Pr
open Go.RowKit Go.Proofs.YtkedidjjhhjdbaaGreatDoorW.PrintWords Go.Proofs.YtkedidjjhhjdbaaGreatDoorW.PrintLast Go.Proofs.YtkedidjjhhjdbaaGreatDoorW.PrintMore
attribute [local go_sem] max2_int min2_int max_two min_two max_three min_three max_four min_four strGtr strLeq strGeq
set_option linter.unusedVariables false
set_option linter.unusedSimpArgs false
mutual
def belfryref04_Key.j0 : Nat → ByteArray → Bool → Option (Bool)
  | 0, _, _ => none
  | k + 1, x0, x13 => if x13 = true then (some false) else (belfryref04_Key.l0 k x0 0)
def belfryref04_Key.l0 : Nat → ByteArray → Int → Option (Bool)
  | 0, _, _ => none
  | k + 1, x0, x3 => if x3 < (x0.size : Int) then (if 0 ≤ x3 then (if (bt x0 x3) ≥ 97 then (if (bt x0 x3) ≤ 122 then (belfryref04_Key.l0 k x0 (wrap64 (x3 + 1))) else (if (bt x0 x3) ≥ 65 then (if (bt x0 x3) ≤ 90 then (belfryref04_Key.l0 k x0 (wrap64 (x3 + 1))) else (if ((bt x0 x3) = 95) then (belfryref04_Key.l0 k x0 (wrap64 (x3 + 1))) else (if x3 = 0 then (some false) else (if (bt x0 x3) ≥ 48 then (if (bt x0 x3) ≤ 57 then (belfryref04_Key.l0 k x0 (wrap64 (x3 + 1))) else (if ((bt x0 x3) = 46) then (belfryref04_Key.l0 k x0 (wrap64 (x3 + 1))) else (some false))) else (if ((bt x0 x3) = 46) then (belfryref04_Key.l0 k x0 (wrap64 (x3 + 1))) else (some false)))))) else (if ((bt x0 x3) = 95) then (belfryref04_Key.l0 k x0 (wrap64 (x3 + 1))) else (if x3 = 0 then (some false) else (if (bt x0 x3) ≥ 48 then (if (bt x0 x3) ≤ 57 then (belfryref04_Key.l0 k x0 (wrap64 (x3 + 1))) else (if ((bt x0 x3) = 46) then (belfryref04_Key.l0 k x0 (wrap64 (x3 + 1))) else (some false))) else (if ((bt x0 x3) = 46) then (belfryref04_Key.l0 k x0 (wrap64 (x3 + 1))) else (some false))))))) else (if (bt x0 x3) ≥ 65 then (if (bt x0 x3) ≤ 90 then (belfryref04_Key.l0 k x0 (wrap64 (x3 + 1))) else (if ((bt x0 x3) = 95) then (belfryref04_Key.l0 k x0 (wrap64 (x3 + 1))) else (if x3 = 0 then (some false) else (if (bt x0 x3) ≥ 48 then (if (bt x0 x3) ≤ 57 then (belfryref04_Key.l0 k x0 (wrap64 (x3 + 1))) else (if ((bt x0 x3) = 46) then (belfryref04_Key.l0 k x0 (wrap64 (x3 + 1))) else (some false))) else (if ((bt x0 x3) = 46) then (belfryref04_Key.l0 k x0 (wrap64 (x3 + 1))) else (some false)))))) else (if ((bt x0 x3) = 95) then (belfryref04_Key.l0 k x0 (wrap64 (x3 + 1))) else (if x3 = 0 then (some false) else (if (bt x0 x3) ≥ 48 then (if (bt x0 x3) ≤ 57 then (belfryref04_Key.l0 k x0 (wrap64 (x3 + 1))) else (if ((bt x0 x3) = 46) then (belfryref04_Key.l0 k x0 (wrap64 (x3 + 1))) else (some false))) else (if ((bt x0 x3) = 46) then (belfryref04_Key.l0 k x0 (wrap64 (x3 + 1))) else (some false))))))) else (none)) else (some true)
end
def belfryref04_Key.f (k : Nat) (a0 : ByteArray) : Option (Bool) := if (a0.size : Int) < 1 then (belfryref04_Key.j0 k a0 true) else (belfryref04_Key.j0 k a0 (decide ((a0.size : Int) > 64)))
set_option maxHeartbeats 8000000 in
set_option maxRecDepth 100000 in
theorem belfryref04_Key.calls (k : Nat) (a0 : ByteArray) (r : Bool) (w : World) (h : belfryref04_Key.f k a0 = some r) :
  Calls Tryz.prog 55 #[.string a0] w fun e w' => e = .returned (.bool r) ∧ Drawn0 w w' := by
 have H : (if (a0.size : Int) < 1 then (belfryref04_Key.j0 k a0 true) else (belfryref04_Key.j0 k a0 (decide ((a0.size : Int) > 64)))) = some r := h
 clear h; have HC2 := Aside0.mk H; clear H
 go_enter Tryz.func55, Tryz.ntmps55
 go_upto_region 1 with (fail)
 go_cut [13] (fun v13 wc => ∃ (kq : Nat) (x13_1 : Bool), v13 = .bool x13_1 ∧ Aside0 (belfryref04_Key.j0 kq a0 x13_1 = some r) ∧ Aside0 (kq ≤ k) ∧ Drawn0 w wc)
 case first =>
  have H := HC2.out; clear HC2; by_cases c3 : (a0.size : Int) < 1
  ·
   rw [if_pos c3] at H
   have c3b0 : decide ((a0.size : Int) < 1) = true := decide_eq_true c3
   have c3b1 : decide (a0.size < 1) = true := decide_eq_true (by omega)
   clear c3
   (first | rw [c3b0] | (simp only [i64_w, i32_w]; rw [c3b0]) | skip)
   have H' := Aside0.mk H; clear H; go_wp2
   go_meet
   case rel => exact ⟨_, (true), sR, H', ⟨by first | omega | exact Nat.le_refl _⟩, dR⟩
  rw [if_neg c3] at H
  have c3b0 : decide ((a0.size : Int) < 1) = false := decide_eq_false c3
  have c3b1 : decide (a0.size < 1) = false := decide_eq_false (by omega)
  clear c3
  (first | rw [c3b0] | (simp only [i64_w, i32_w]; rw [c3b0]) | skip)
  have H' := Aside0.mk H; clear H; go_wp2
  go_meet
  case rel => exact ⟨_, (decide ((a0.size : Int) > 64)), sR, H', ⟨by first | omega | exact Nat.le_refl _⟩, dR⟩
 case rest =>
  clear HC2; (try clear p2); (try clear c3); (try clear c3b0); (try clear c3b1)
  obtain ⟨kq, x13_1, rfl, HA, HJ1, ⟨mc1, rfl⟩⟩ := hcut
  cases kq with
  | zero => exact absurd HA.out (by simp [belfryref04_Key.j0])
  | succ kj1 =>
   have H := HA.out; clear HA
   simp only [belfryref04_Key.j0] at H
   by_cases c4 : x13_1 = true
   ·
    subst c4
    have H1 : (some false) = some r := by rw [if_pos rfl] at H; exact H
    clear H; have H := H1; clear H1
    obtain rfl := Option.some.inj H
    go_wp2; go_ret
    exact ⟨sR, dR⟩
   replace c4 := Bool.eq_false_iff.mpr c4
   subst c4
   have H1 : (belfryref04_Key.l0 kj1 a0 0) = some r := by rw [if_neg (show ¬ (false = true) by decide)] at H; exact H
   clear H; have H := H1; clear H1; have H' := Aside0.mk H; clear H; go_wp2
   go_loopg [3] kj1 (fun kq v3 w' => ∃ (x3_2 : Int), v3 = .int .i64 x3_2 ∧ Aside0 (belfryref04_Key.l0 kq a0 x3_2 = some r) ∧ Aside0 (kq ≤ kj1) ∧ Drawn0 w w')
   case atStart => exact ⟨(0), sR, H', ⟨Nat.le_refl _⟩, dR⟩
   case round =>
    clear H'; (try clear c1); (try clear p2); (try clear c3); (try clear c3b0); (try clear c3b1); (try clear c4); (try clear p2)
    obtain ⟨x3_2, rfl, HA, HK2, ⟨m2, rfl⟩⟩ := hrel
    cases gk with
    | zero => exact absurd HA.out (by simp [belfryref04_Key.l0])
    | succ k2 =>
     have H := HA.out; clear HA
     simp only [belfryref04_Key.l0] at H
     by_cases c5 : x3_2 < (a0.size : Int); rotate_left
     ·
      rw [if_neg c5] at H
      have c5b0 : decide (x3_2 < (a0.size : Int)) = false := decide_eq_false c5
      clear c5
      obtain rfl := Option.some.inj H
      go_wp2; go_ret
      exact ⟨sR, dR⟩
     rw [if_pos c5] at H
     have c5b0 : decide (x3_2 < (a0.size : Int)) = true := decide_eq_true c5
     clear c5; by_cases c6 : 0 ≤ x3_2; rotate_left
     · rw [if_neg c6] at H; exact absurd H (by simp)
     rw [if_pos c6] at H
     have c6b0 : decide (0 ≤ x3_2) = true := decide_eq_true c6
     clear c6; by_cases c8 : (bt a0 x3_2) ≥ 97; rotate_left
     ·
      rw [if_neg c8] at H
      have c8b0 : decide (97 ≤ (bt a0 x3_2)) = false := decide_eq_false c8
      clear c8; by_cases c24 : (bt a0 x3_2) ≥ 65; rotate_left
      ·
       rw [if_neg c24] at H
       have c24b0 : decide (65 ≤ (bt a0 x3_2)) = false := decide_eq_false c24
       clear c24; by_cases c32 : ((bt a0 x3_2) = 95)
       ·
        rw [if_pos c32] at H
        have c32b0 : ((bt a0 x3_2) == 95) = true := beq_iff_eq.mpr c32
        have c32b1 : ((bt a0 x3_2) != 95) = false := bne_eq_false_iff_eq.mpr c32
        clear c32; have H' := Aside0.mk H; clear H
        have p7 : 0 ≤ (x3_2 : Int) := of_decide_eq_true asm
        have q7 : x3_2 < (a0.size : Int) := of_decide_eq_true asm
        have hx7 := bt_at a0 x3_2; replace p7 := eq_true p7; replace q7 := eq_true q7; go_wp2
        go_roundg k2
        case measure => have := HJ1.out; have := HK2.out; omega
        case rel => exact ⟨(wrap64 (x3_2 + 1)), sR, H', ⟨by have := HJ1.out; have := HK2.out; omega⟩, dR⟩
       rw [if_neg c32] at H
       have c32b0 : ((bt a0 x3_2) == 95) = false := beq_eq_false_iff_ne.mpr c32
       have c32b1 : ((bt a0 x3_2) != 95) = true := bne_iff_ne.mpr c32
       by_cases c33 : x3_2 = 0
       ·
        rw [if_pos c33] at H
        have c33b0 : (x3_2 == 0) = true := beq_iff_eq.mpr c33
        have c33b1 : (x3_2 != 0) = false := bne_eq_false_iff_eq.mpr c33
        clear c33
        obtain rfl := Option.some.inj H
        have p7 : 0 ≤ (x3_2 : Int) := of_decide_eq_true asm
        have q7 : x3_2 < (a0.size : Int) := of_decide_eq_true asm
        have hx7 := bt_at a0 x3_2; replace p7 := eq_true p7; replace q7 := eq_true q7; go_wp2; go_ret
        exact ⟨sR, dR⟩
       rw [if_neg c33] at H
       have c33b0 : (x3_2 == 0) = false := beq_eq_false_iff_ne.mpr c33
       have c33b1 : (x3_2 != 0) = true := bne_iff_ne.mpr c33
       by_cases c34 : (bt a0 x3_2) ≥ 48; rotate_left
       ·
        rw [if_neg c34] at H
        have c34b0 : decide (48 ≤ (bt a0 x3_2)) = false := decide_eq_false c34
        clear c34; by_cases c37 : ((bt a0 x3_2) = 46); rotate_left
        ·
         rw [if_neg c37] at H
         have c37b0 : ((bt a0 x3_2) == 46) = false := beq_eq_false_iff_ne.mpr c37
         have c37b1 : ((bt a0 x3_2) != 46) = true := bne_iff_ne.mpr c37
         obtain rfl := Option.some.inj H
         have p7 : 0 ≤ (x3_2 : Int) := of_decide_eq_true asm
         have q7 : x3_2 < (a0.size : Int) := of_decide_eq_true asm
         have hx7 := bt_at a0 x3_2; replace p7 := eq_true p7; replace q7 := eq_true q7; go_wp2; go_ret
         exact ⟨sR, dR⟩
        rw [if_pos c37] at H
        have c37b0 : ((bt a0 x3_2) == 46) = true := beq_iff_eq.mpr c37
        have c37b1 : ((bt a0 x3_2) != 46) = false := bne_eq_false_iff_eq.mpr c37
        clear c37; have H' := Aside0.mk H; clear H
        have p7 : 0 ≤ (x3_2 : Int) := of_decide_eq_true asm
        have q7 : x3_2 < (a0.size : Int) := of_decide_eq_true asm
        have hx7 := bt_at a0 x3_2; replace p7 := eq_true p7; replace q7 := eq_true q7; go_wp2
        go_roundg k2
        case measure => have := HJ1.out; have := HK2.out; omega
        case rel => exact ⟨(wrap64 (x3_2 + 1)), sR, H', ⟨by have := HJ1.out; have := HK2.out; omega⟩, dR⟩
       rw [if_pos c34] at H
       have c34b0 : decide (48 ≤ (bt a0 x3_2)) = true := decide_eq_true c34
       clear c34; by_cases c35 : (bt a0 x3_2) ≤ 57
       ·
        rw [if_pos c35] at H
        have c35b0 : decide ((bt a0 x3_2) ≤ 57) = true := decide_eq_true c35
        clear c35; have H' := Aside0.mk H; clear H
        have p7 : 0 ≤ (x3_2 : Int) := of_decide_eq_true asm
        have q7 : x3_2 < (a0.size : Int) := of_decide_eq_true asm
        have hx7 := bt_at a0 x3_2; replace p7 := eq_true p7; replace q7 := eq_true q7; go_wp2
        go_roundg k2
        case measure => have := HJ1.out; have := HK2.out; omega
        case rel => exact ⟨(wrap64 (x3_2 + 1)), sR, H', ⟨by have := HJ1.out; have := HK2.out; omega⟩, dR⟩
       rw [if_neg c35] at H
       have c35b0 : decide ((bt a0 x3_2) ≤ 57) = false := decide_eq_false c35
       clear c35; by_cases c36 : ((bt a0 x3_2) = 46); rotate_left
       ·
        rw [if_neg c36] at H
        have c36b0 : ((bt a0 x3_2) == 46) = false := beq_eq_false_iff_ne.mpr c36
        have c36b1 : ((bt a0 x3_2) != 46) = true := bne_iff_ne.mpr c36
        obtain rfl := Option.some.inj H
        have p7 : 0 ≤ (x3_2 : Int) := of_decide_eq_true asm
        have q7 : x3_2 < (a0.size : Int) := of_decide_eq_true asm
        have hx7 := bt_at a0 x3_2; replace p7 := eq_true p7; replace q7 := eq_true q7; go_wp2; go_ret
        exact ⟨sR, dR⟩
       rw [if_pos c36] at H
       have c36b0 : ((bt a0 x3_2) == 46) = true := beq_iff_eq.mpr c36
       have c36b1 : ((bt a0 x3_2) != 46) = false := bne_eq_false_iff_eq.mpr c36
       clear c36; have H' := Aside0.mk H; clear H
       have p7 : 0 ≤ (x3_2 : Int) := of_decide_eq_true asm
       have q7 : x3_2 < (a0.size : Int) := of_decide_eq_true asm
       have hx7 := bt_at a0 x3_2; replace p7 := eq_true p7; replace q7 := eq_true q7; go_wp2
       go_roundg k2
       case measure => have := HJ1.out; have := HK2.out; omega
       case rel => exact ⟨(wrap64 (x3_2 + 1)), sR, H', ⟨by have := HJ1.out; have := HK2.out; omega⟩, dR⟩
      rw [if_pos c24] at H
      have c24b0 : decide (65 ≤ (bt a0 x3_2)) = true := decide_eq_true c24
      clear c24; by_cases c25 : (bt a0 x3_2) ≤ 90
      ·
       rw [if_pos c25] at H
       have c25b0 : decide ((bt a0 x3_2) ≤ 90) = true := decide_eq_true c25
       clear c25; have H' := Aside0.mk H; clear H
       have p7 : 0 ≤ (x3_2 : Int) := of_decide_eq_true asm
       have q7 : x3_2 < (a0.size : Int) := of_decide_eq_true asm
       have hx7 := bt_at a0 x3_2; replace p7 := eq_true p7; replace q7 := eq_true q7; go_wp2
       go_roundg k2
       case measure => have := HJ1.out; have := HK2.out; omega
       case rel => exact ⟨(wrap64 (x3_2 + 1)), sR, H', ⟨by have := HJ1.out; have := HK2.out; omega⟩, dR⟩
      rw [if_neg c25] at H
      have c25b0 : decide ((bt a0 x3_2) ≤ 90) = false := decide_eq_false c25
      clear c25; by_cases c26 : ((bt a0 x3_2) = 95)
      ·
       rw [if_pos c26] at H
       have c26b0 : ((bt a0 x3_2) == 95) = true := beq_iff_eq.mpr c26
       have c26b1 : ((bt a0 x3_2) != 95) = false := bne_eq_false_iff_eq.mpr c26
       clear c26; have H' := Aside0.mk H; clear H
       have p7 : 0 ≤ (x3_2 : Int) := of_decide_eq_true asm
       have q7 : x3_2 < (a0.size : Int) := of_decide_eq_true asm
       have hx7 := bt_at a0 x3_2; replace p7 := eq_true p7; replace q7 := eq_true q7; go_wp2
       go_roundg k2
       case measure => have := HJ1.out; have := HK2.out; omega
       case rel => exact ⟨(wrap64 (x3_2 + 1)), sR, H', ⟨by have := HJ1.out; have := HK2.out; omega⟩, dR⟩
      rw [if_neg c26] at H
      have c26b0 : ((bt a0 x3_2) == 95) = false := beq_eq_false_iff_ne.mpr c26
      have c26b1 : ((bt a0 x3_2) != 95) = true := bne_iff_ne.mpr c26
      by_cases c27 : x3_2 = 0
      ·
       rw [if_pos c27] at H
       have c27b0 : (x3_2 == 0) = true := beq_iff_eq.mpr c27
       have c27b1 : (x3_2 != 0) = false := bne_eq_false_iff_eq.mpr c27
       clear c27
       obtain rfl := Option.some.inj H
       have p7 : 0 ≤ (x3_2 : Int) := of_decide_eq_true asm
       have q7 : x3_2 < (a0.size : Int) := of_decide_eq_true asm
       have hx7 := bt_at a0 x3_2; replace p7 := eq_true p7; replace q7 := eq_true q7; go_wp2; go_ret
       exact ⟨sR, dR⟩
      rw [if_neg c27] at H
      have c27b0 : (x3_2 == 0) = false := beq_eq_false_iff_ne.mpr c27
      have c27b1 : (x3_2 != 0) = true := bne_iff_ne.mpr c27
      by_cases c28 : (bt a0 x3_2) ≥ 48; rotate_left
      ·
       rw [if_neg c28] at H
       have c28b0 : decide (48 ≤ (bt a0 x3_2)) = false := decide_eq_false c28
       clear c28; by_cases c31 : ((bt a0 x3_2) = 46); rotate_left
       ·
        rw [if_neg c31] at H
        have c31b0 : ((bt a0 x3_2) == 46) = false := beq_eq_false_iff_ne.mpr c31
        have c31b1 : ((bt a0 x3_2) != 46) = true := bne_iff_ne.mpr c31
        obtain rfl := Option.some.inj H
        have p7 : 0 ≤ (x3_2 : Int) := of_decide_eq_true asm
        have q7 : x3_2 < (a0.size : Int) := of_decide_eq_true asm
        have hx7 := bt_at a0 x3_2; replace p7 := eq_true p7; replace q7 := eq_true q7; go_wp2; go_ret
        exact ⟨sR, dR⟩
       rw [if_pos c31] at H
       have c31b0 : ((bt a0 x3_2) == 46) = true := beq_iff_eq.mpr c31
       have c31b1 : ((bt a0 x3_2) != 46) = false := bne_eq_false_iff_eq.mpr c31
       clear c31; have H' := Aside0.mk H; clear H
       have p7 : 0 ≤ (x3_2 : Int) := of_decide_eq_true asm
       have q7 : x3_2 < (a0.size : Int) := of_decide_eq_true asm
       have hx7 := bt_at a0 x3_2; replace p7 := eq_true p7; replace q7 := eq_true q7; go_wp2
       go_roundg k2
       case measure => have := HJ1.out; have := HK2.out; omega
       case rel => exact ⟨(wrap64 (x3_2 + 1)), sR, H', ⟨by have := HJ1.out; have := HK2.out; omega⟩, dR⟩
      rw [if_pos c28] at H
      have c28b0 : decide (48 ≤ (bt a0 x3_2)) = true := decide_eq_true c28
      clear c28; by_cases c29 : (bt a0 x3_2) ≤ 57
      ·
       rw [if_pos c29] at H
       have c29b0 : decide ((bt a0 x3_2) ≤ 57) = true := decide_eq_true c29
       clear c29; have H' := Aside0.mk H; clear H
       have p7 : 0 ≤ (x3_2 : Int) := of_decide_eq_true asm
       have q7 : x3_2 < (a0.size : Int) := of_decide_eq_true asm
       have hx7 := bt_at a0 x3_2; replace p7 := eq_true p7; replace q7 := eq_true q7; go_wp2
       go_roundg k2
       case measure => have := HJ1.out; have := HK2.out; omega
       case rel => exact ⟨(wrap64 (x3_2 + 1)), sR, H', ⟨by have := HJ1.out; have := HK2.out; omega⟩, dR⟩
      rw [if_neg c29] at H
      have c29b0 : decide ((bt a0 x3_2) ≤ 57) = false := decide_eq_false c29
      clear c29; by_cases c30 : ((bt a0 x3_2) = 46); rotate_left
      ·
       rw [if_neg c30] at H
       have c30b0 : ((bt a0 x3_2) == 46) = false := beq_eq_false_iff_ne.mpr c30
       have c30b1 : ((bt a0 x3_2) != 46) = true := bne_iff_ne.mpr c30
       obtain rfl := Option.some.inj H
       have p7 : 0 ≤ (x3_2 : Int) := of_decide_eq_true asm
       have q7 : x3_2 < (a0.size : Int) := of_decide_eq_true asm
       have hx7 := bt_at a0 x3_2; replace p7 := eq_true p7; replace q7 := eq_true q7; go_wp2; go_ret
       exact ⟨sR, dR⟩
      rw [if_pos c30] at H
      have c30b0 : ((bt a0 x3_2) == 46) = true := beq_iff_eq.mpr c30
      have c30b1 : ((bt a0 x3_2) != 46) = false := bne_eq_false_iff_eq.mpr c30
      clear c30; have H' := Aside0.mk H; clear H
      have p7 : 0 ≤ (x3_2 : Int) := of_decide_eq_true asm
      have q7 : x3_2 < (a0.size : Int) := of_decide_eq_true asm
      have hx7 := bt_at a0 x3_2; replace p7 := eq_true p7; replace q7 := eq_true q7; go_wp2
      go_roundg k2
      case measure => have := HJ1.out; have := HK2.out; omega
      case rel => exact ⟨(wrap64 (x3_2 + 1)), sR, H', ⟨by have := HJ1.out; have := HK2.out; omega⟩, dR⟩
     rw [if_pos c8] at H
     have c8b0 : decide (97 ≤ (bt a0 x3_2)) = true := decide_eq_true c8
     clear c8; by_cases c9 : (bt a0 x3_2) ≤ 122
     ·
      rw [if_pos c9] at H
      have c9b0 : decide ((bt a0 x3_2) ≤ 122) = true := decide_eq_true c9
      clear c9; have H' := Aside0.mk H; clear H
      have p7 : 0 ≤ (x3_2 : Int) := of_decide_eq_true asm
      have q7 : x3_2 < (a0.size : Int) := of_decide_eq_true asm
      have hx7 := bt_at a0 x3_2; replace p7 := eq_true p7; replace q7 := eq_true q7; go_wp2
      go_roundg k2
      case measure => have := HJ1.out; have := HK2.out; omega
      case rel => exact ⟨(wrap64 (x3_2 + 1)), sR, H', ⟨by have := HJ1.out; have := HK2.out; omega⟩, dR⟩
     rw [if_neg c9] at H
     have c9b0 : decide ((bt a0 x3_2) ≤ 122) = false := decide_eq_false c9
     clear c9; by_cases c10 : (bt a0 x3_2) ≥ 65; rotate_left
     ·
      rw [if_neg c10] at H
      have c10b0 : decide (65 ≤ (bt a0 x3_2)) = false := decide_eq_false c10
      clear c10; by_cases c18 : ((bt a0 x3_2) = 95)
      ·
       rw [if_pos c18] at H
       have c18b0 : ((bt a0 x3_2) == 95) = true := beq_iff_eq.mpr c18
       have c18b1 : ((bt a0 x3_2) != 95) = false := bne_eq_false_iff_eq.mpr c18
       clear c18; have H' := Aside0.mk H; clear H
       have p7 : 0 ≤ (x3_2 : Int) := of_decide_eq_true asm
       have q7 : x3_2 < (a0.size : Int) := of_decide_eq_true asm
       have hx7 := bt_at a0 x3_2; replace p7 := eq_true p7; replace q7 := eq_true q7; go_wp2
       go_roundg k2
       case measure => have := HJ1.out; have := HK2.out; omega
       case rel => exact ⟨(wrap64 (x3_2 + 1)), sR, H', ⟨by have := HJ1.out; have := HK2.out; omega⟩, dR⟩
      rw [if_neg c18] at H
      have c18b0 : ((bt a0 x3_2) == 95) = false := beq_eq_false_iff_ne.mpr c18
      have c18b1 : ((bt a0 x3_2) != 95) = true := bne_iff_ne.mpr c18
      by_cases c19 : x3_2 = 0
      ·
       rw [if_pos c19] at H
       have c19b0 : (x3_2 == 0) = true := beq_iff_eq.mpr c19
       have c19b1 : (x3_2 != 0) = false := bne_eq_false_iff_eq.mpr c19
       clear c19
       obtain rfl := Option.some.inj H
       have p7 : 0 ≤ (x3_2 : Int) := of_decide_eq_true asm
       have q7 : x3_2 < (a0.size : Int) := of_decide_eq_true asm
       have hx7 := bt_at a0 x3_2; replace p7 := eq_true p7; replace q7 := eq_true q7; go_wp2; go_ret
       exact ⟨sR, dR⟩
      rw [if_neg c19] at H
      have c19b0 : (x3_2 == 0) = false := beq_eq_false_iff_ne.mpr c19
      have c19b1 : (x3_2 != 0) = true := bne_iff_ne.mpr c19
      by_cases c20 : (bt a0 x3_2) ≥ 48; rotate_left
      ·
       rw [if_neg c20] at H
       have c20b0 : decide (48 ≤ (bt a0 x3_2)) = false := decide_eq_false c20
       clear c20; by_cases c23 : ((bt a0 x3_2) = 46); rotate_left
       ·
        rw [if_neg c23] at H
        have c23b0 : ((bt a0 x3_2) == 46) = false := beq_eq_false_iff_ne.mpr c23
        have c23b1 : ((bt a0 x3_2) != 46) = true := bne_iff_ne.mpr c23
        obtain rfl := Option.some.inj H
        have p7 : 0 ≤ (x3_2 : Int) := of_decide_eq_true asm
        have q7 : x3_2 < (a0.size : Int) := of_decide_eq_true asm
        have hx7 := bt_at a0 x3_2; replace p7 := eq_true p7; replace q7 := eq_true q7; go_wp2; go_ret
        exact ⟨sR, dR⟩
       rw [if_pos c23] at H
       have c23b0 : ((bt a0 x3_2) == 46) = true := beq_iff_eq.mpr c23
       have c23b1 : ((bt a0 x3_2) != 46) = false := bne_eq_false_iff_eq.mpr c23
       clear c23; have H' := Aside0.mk H; clear H
       have p7 : 0 ≤ (x3_2 : Int) := of_decide_eq_true asm
       have q7 : x3_2 < (a0.size : Int) := of_decide_eq_true asm
       have hx7 := bt_at a0 x3_2; replace p7 := eq_true p7; replace q7 := eq_true q7; go_wp2
       go_roundg k2
       case measure => have := HJ1.out; have := HK2.out; omega
       case rel => exact ⟨(wrap64 (x3_2 + 1)), sR, H', ⟨by have := HJ1.out; have := HK2.out; omega⟩, dR⟩
      rw [if_pos c20] at H
      have c20b0 : decide (48 ≤ (bt a0 x3_2)) = true := decide_eq_true c20
      clear c20; by_cases c21 : (bt a0 x3_2) ≤ 57
      ·
       rw [if_pos c21] at H
       have c21b0 : decide ((bt a0 x3_2) ≤ 57) = true := decide_eq_true c21
       clear c21; have H' := Aside0.mk H; clear H
       have p7 : 0 ≤ (x3_2 : Int) := of_decide_eq_true asm
       have q7 : x3_2 < (a0.size : Int) := of_decide_eq_true asm
       have hx7 := bt_at a0 x3_2; replace p7 := eq_true p7; replace q7 := eq_true q7; go_wp2
       go_roundg k2
       case measure => have := HJ1.out; have := HK2.out; omega
       case rel => exact ⟨(wrap64 (x3_2 + 1)), sR, H', ⟨by have := HJ1.out; have := HK2.out; omega⟩, dR⟩
      rw [if_neg c21] at H
      have c21b0 : decide ((bt a0 x3_2) ≤ 57) = false := decide_eq_false c21
      clear c21; by_cases c22 : ((bt a0 x3_2) = 46); rotate_left
      ·
       rw [if_neg c22] at H
       have c22b0 : ((bt a0 x3_2) == 46) = false := beq_eq_false_iff_ne.mpr c22
       have c22b1 : ((bt a0 x3_2) != 46) = true := bne_iff_ne.mpr c22
       obtain rfl := Option.some.inj H
       have p7 : 0 ≤ (x3_2 : Int) := of_decide_eq_true asm
       have q7 : x3_2 < (a0.size : Int) := of_decide_eq_true asm
       have hx7 := bt_at a0 x3_2; replace p7 := eq_true p7; replace q7 := eq_true q7; go_wp2; go_ret
       exact ⟨sR, dR⟩
      rw [if_pos c22] at H
      have c22b0 : ((bt a0 x3_2) == 46) = true := beq_iff_eq.mpr c22
      have c22b1 : ((bt a0 x3_2) != 46) = false := bne_eq_false_iff_eq.mpr c22
      clear c22; have H' := Aside0.mk H; clear H
      have p7 : 0 ≤ (x3_2 : Int) := of_decide_eq_true asm
      have q7 : x3_2 < (a0.size : Int) := of_decide_eq_true asm
      have hx7 := bt_at a0 x3_2; replace p7 := eq_true p7; replace q7 := eq_true q7; go_wp2
      go_roundg k2
      case measure => have := HJ1.out; have := HK2.out; omega
      case rel => exact ⟨(wrap64 (x3_2 + 1)), sR, H', ⟨by have := HJ1.out; have := HK2.out; omega⟩, dR⟩
     rw [if_pos c10] at H
     have c10b0 : decide (65 ≤ (bt a0 x3_2)) = true := decide_eq_true c10
     clear c10; by_cases c11 : (bt a0 x3_2) ≤ 90
     ·
      rw [if_pos c11] at H
      have c11b0 : decide ((bt a0 x3_2) ≤ 90) = true := decide_eq_true c11
      clear c11; have H' := Aside0.mk H; clear H
      have p7 : 0 ≤ (x3_2 : Int) := of_decide_eq_true asm
      have q7 : x3_2 < (a0.size : Int) := of_decide_eq_true asm
      have hx7 := bt_at a0 x3_2; replace p7 := eq_true p7; replace q7 := eq_true q7; go_wp2
      go_roundg k2
      case measure => have := HJ1.out; have := HK2.out; omega
      case rel => exact ⟨(wrap64 (x3_2 + 1)), sR, H', ⟨by have := HJ1.out; have := HK2.out; omega⟩, dR⟩
     rw [if_neg c11] at H
     have c11b0 : decide ((bt a0 x3_2) ≤ 90) = false := decide_eq_false c11
     clear c11; by_cases c12 : ((bt a0 x3_2) = 95)
     ·
      rw [if_pos c12] at H
      have c12b0 : ((bt a0 x3_2) == 95) = true := beq_iff_eq.mpr c12
      have c12b1 : ((bt a0 x3_2) != 95) = false := bne_eq_false_iff_eq.mpr c12
      clear c12; have H' := Aside0.mk H; clear H
      have p7 : 0 ≤ (x3_2 : Int) := of_decide_eq_true asm
      have q7 : x3_2 < (a0.size : Int) := of_decide_eq_true asm
      have hx7 := bt_at a0 x3_2; replace p7 := eq_true p7; replace q7 := eq_true q7; go_wp2
      go_roundg k2
      case measure => have := HJ1.out; have := HK2.out; omega
      case rel => exact ⟨(wrap64 (x3_2 + 1)), sR, H', ⟨by have := HJ1.out; have := HK2.out; omega⟩, dR⟩
     rw [if_neg c12] at H
     have c12b0 : ((bt a0 x3_2) == 95) = false := beq_eq_false_iff_ne.mpr c12
     have c12b1 : ((bt a0 x3_2) != 95) = true := bne_iff_ne.mpr c12
     by_cases c13 : x3_2 = 0
     ·
      rw [if_pos c13] at H
      have c13b0 : (x3_2 == 0) = true := beq_iff_eq.mpr c13
      have c13b1 : (x3_2 != 0) = false := bne_eq_false_iff_eq.mpr c13
      clear c13
      obtain rfl := Option.some.inj H
      have p7 : 0 ≤ (x3_2 : Int) := of_decide_eq_true asm
      have q7 : x3_2 < (a0.size : Int) := of_decide_eq_true asm
      have hx7 := bt_at a0 x3_2; replace p7 := eq_true p7; replace q7 := eq_true q7; go_wp2; go_ret
      exact ⟨sR, dR⟩
     rw [if_neg c13] at H
     have c13b0 : (x3_2 == 0) = false := beq_eq_false_iff_ne.mpr c13
     have c13b1 : (x3_2 != 0) = true := bne_iff_ne.mpr c13
     by_cases c14 : (bt a0 x3_2) ≥ 48; rotate_left
     ·
      rw [if_neg c14] at H
      have c14b0 : decide (48 ≤ (bt a0 x3_2)) = false := decide_eq_false c14
      clear c14; by_cases c17 : ((bt a0 x3_2) = 46); rotate_left
      ·
       rw [if_neg c17] at H
       have c17b0 : ((bt a0 x3_2) == 46) = false := beq_eq_false_iff_ne.mpr c17
       have c17b1 : ((bt a0 x3_2) != 46) = true := bne_iff_ne.mpr c17
       obtain rfl := Option.some.inj H
       have p7 : 0 ≤ (x3_2 : Int) := of_decide_eq_true asm
       have q7 : x3_2 < (a0.size : Int) := of_decide_eq_true asm
       have hx7 := bt_at a0 x3_2; replace p7 := eq_true p7; replace q7 := eq_true q7; go_wp2; go_ret
       exact ⟨sR, dR⟩
      rw [if_pos c17] at H
      have c17b0 : ((bt a0 x3_2) == 46) = true := beq_iff_eq.mpr c17
      have c17b1 : ((bt a0 x3_2) != 46) = false := bne_eq_false_iff_eq.mpr c17
      clear c17; have H' := Aside0.mk H; clear H
      have p7 : 0 ≤ (x3_2 : Int) := of_decide_eq_true asm
      have q7 : x3_2 < (a0.size : Int) := of_decide_eq_true asm
      have hx7 := bt_at a0 x3_2; replace p7 := eq_true p7; replace q7 := eq_true q7; go_wp2
      go_roundg k2
      case measure => have := HJ1.out; have := HK2.out; omega
      case rel => exact ⟨(wrap64 (x3_2 + 1)), sR, H', ⟨by have := HJ1.out; have := HK2.out; omega⟩, dR⟩
     rw [if_pos c14] at H
     have c14b0 : decide (48 ≤ (bt a0 x3_2)) = true := decide_eq_true c14
     clear c14; by_cases c15 : (bt a0 x3_2) ≤ 57
     ·
      rw [if_pos c15] at H
      have c15b0 : decide ((bt a0 x3_2) ≤ 57) = true := decide_eq_true c15
      clear c15; have H' := Aside0.mk H; clear H
      have p7 : 0 ≤ (x3_2 : Int) := of_decide_eq_true asm
      have q7 : x3_2 < (a0.size : Int) := of_decide_eq_true asm
      have hx7 := bt_at a0 x3_2; replace p7 := eq_true p7; replace q7 := eq_true q7; go_wp2
      go_roundg k2
      case measure => have := HJ1.out; have := HK2.out; omega
      case rel => exact ⟨(wrap64 (x3_2 + 1)), sR, H', ⟨by have := HJ1.out; have := HK2.out; omega⟩, dR⟩
     rw [if_neg c15] at H
     have c15b0 : decide ((bt a0 x3_2) ≤ 57) = false := decide_eq_false c15
     clear c15; by_cases c16 : ((bt a0 x3_2) = 46); rotate_left
     ·
      rw [if_neg c16] at H
      have c16b0 : ((bt a0 x3_2) == 46) = false := beq_eq_false_iff_ne.mpr c16
      have c16b1 : ((bt a0 x3_2) != 46) = true := bne_iff_ne.mpr c16
      obtain rfl := Option.some.inj H
      have p7 : 0 ≤ (x3_2 : Int) := of_decide_eq_true asm
      have q7 : x3_2 < (a0.size : Int) := of_decide_eq_true asm
      have hx7 := bt_at a0 x3_2; replace p7 := eq_true p7; replace q7 := eq_true q7; go_wp2; go_ret
      exact ⟨sR, dR⟩
     rw [if_pos c16] at H
     have c16b0 : ((bt a0 x3_2) == 46) = true := beq_iff_eq.mpr c16
     have c16b1 : ((bt a0 x3_2) != 46) = false := bne_eq_false_iff_eq.mpr c16
     clear c16; have H' := Aside0.mk H; clear H
     have p7 : 0 ≤ (x3_2 : Int) := of_decide_eq_true asm
     have q7 : x3_2 < (a0.size : Int) := of_decide_eq_true asm
     have hx7 := bt_at a0 x3_2; replace p7 := eq_true p7; replace q7 := eq_true q7; go_wp2
     go_roundg k2
     case measure => have := HJ1.out; have := HK2.out; omega
     case rel => exact ⟨(wrap64 (x3_2 + 1)), sR, H', ⟨by have := HJ1.out; have := HK2.out; omega⟩, dR⟩
end Go.Proofs.YtkedidjjhhjdbaaGreatDoor.Pr
end
section
set_option linter.unusedVariables false
set_option linter.unusedSimpArgs false
namespace Go.Proofs.YtkedidjjhhjdbaaGreatDoor.Pr
open Go.RowKit Go.Proofs.YtkedidjjhhjdbaaGreatDoorW.PrintWords Go.Proofs.YtkedidjjhhjdbaaGreatDoorW.PrintLast Go.Proofs.YtkedidjjhhjdbaaGreatDoorW.PrintMore
theorem wrap_succ {i : Int} (h0 : 0 ≤ i) (h1 : i < 9223372036854775807) : wrap64 (i + 1) = i + 1 := by unfold wrap64; omega
def headB (c : Int) : Bool := (decide (97 ≤ c) && decide (c ≤ 122)) || (decide (65 ≤ c) && decide (c ≤ 90)) || c == 95
def tailB (c : Int) : Bool := headB c || (decide (48 ≤ c) && decide (c ≤ 57)) || c == 46
theorem head_eq (c : Int) (h0 : 0 ≤ c) (h1 : c ≤ 255) : attr_head.f c = some (headB c) := by
 have h : ((List.range 256).all fun n => attr_head.f (n : Int) == some (headB (n : Int))) = true := by kernel_rfl
 have := List.all_eq_true.1 h c.toNat (List.mem_range.2 (by omega))
 rw [Int.toNat_of_nonneg h0] at this; exact eq_of_beq this
theorem tail_eq (c : Int) (h0 : 0 ≤ c) (h1 : c ≤ 255) : attr_tail.f c = some (tailB c) := by
 have h : ((List.range 256).all fun n => attr_tail.f (n : Int) == some (tailB (n : Int))) = true := by kernel_rfl
 have := List.all_eq_true.1 h c.toNat (List.mem_range.2 (by omega))
 rw [Int.toNat_of_nonneg h0] at this; exact eq_of_beq this
def allT (s : ByteArray) : Int → Nat → Bool
  | _, 0 => true
  | i, n + 1 => tailB (bt s i) && allT s (i + 1) n
theorem attr_Key_l0 (s : ByteArray) (hs : s.size ≤ 9223372036854775807) : ∀ (n : Nat) (i : Int), 0 ≤ i → i + n = s.size → ∀ k, n < k → attr_Key.l0 k s (s.size : Int) i = some (allT s i n)
 | _, _, _, _, 0, hk => absurd hk (by omega)
 | 0, i, h0, hn, k + 1, hk => by
  rw [attr_Key.l0, if_neg (by omega)]; rfl
 | n + 1, i, h0, hn, k + 1, hk => by
  rw [attr_Key.l0, if_pos (by omega), if_pos h0, if_pos (by omega), tail_eq _ (bt_range s i).1 (bt_range s i).2, Option.bind_some, wrap_succ h0 (by omega)]; rw [allT]
  cases h : tailB (bt s i) with
  | false => simp
  | true =>
   rw [if_pos rfl, attr_Key_l0 s hs n (i + 1) (by omega) (by omega) k (by omega)]
   simp
def allR (s : ByteArray) : Int → Nat → Bool
  | _, 0 => true
  | i, n + 1 => (if headB (bt s i) then true else (if i = 0 then false else tailB (bt s i))) && allR s (i + 1) n
theorem ref_Key_l0 (s : ByteArray) (hs : s.size ≤ 9223372036854775807) : ∀ (n : Nat) (i : Int), 0 ≤ i → i + n = s.size → ∀ k, n < k → belfryref04_Key.l0 k s i = some (allR s i n)
 | _, _, _, _, 0, hk => absurd hk (by omega)
 | 0, i, h0, hn, k + 1, hk => by
  rw [belfryref04_Key.l0, if_neg (by omega)]; rfl
 | n + 1, i, h0, hn, k + 1, hk => by
  have ih := ref_Key_l0 s hs n (i + 1) (by omega) (by omega) k (by omega); rw [belfryref04_Key.l0, if_pos (by omega), if_pos h0, wrap_succ h0 (by omega), ih, allR]; simp only [headB, tailB]
  generalize bt s i = c
  by_cases h97 : c ≥ 97 <;> by_cases h122 : c ≤ 122 <;> by_cases h65 : c ≥ 65 <;> by_cases h90 : c ≤ 90 <;> by_cases h95 : c = 95 <;> by_cases hi : i = 0 <;> by_cases h48 : c ≥ 48 <;> by_cases h57 : c ≤ 57 <;> by_cases h46 : c = 46 <;> first | omega | simp [*]
theorem allR_allT (s : ByteArray) : ∀ (n : Nat) (i : Int), 0 < i → allR s i n = allT s i n
 | 0, _, _ => rfl
 | n + 1, i, h => by
  rw [allR, allT, allR_allT s n (i + 1) (by omega), if_neg (show ¬ i = 0 by omega)]
  cases hh : headB (bt s i) with
  | false => simp
  | true => simp [tailB, hh]
def keyB (s : ByteArray) : Bool := decide (1 ≤ s.size) && decide (s.size ≤ 64) && headB (bt s 0) && allT s 1 (s.size - 1)
theorem toList_nil {s : ByteArray} : s.toList = ([] : List UInt8) ↔ s.size = 0 := by
 rw [Lib.toList_data]
 constructor
 · intro h; show s.data.size = 0; rw [← Array.length_toList, h]; rfl
 intro h
 have : s.data.size = 0 := h
 rw [← Array.length_toList] at this; exact List.eq_nil_of_length_eq_zero this
theorem key_eq (s : ByteArray) (k : Nat) (hk : 66 < k) : attr_Key.f k s = some (keyB s) := by
 obtain ⟨k, rfl⟩ : ∃ j, k = j + 1 := ⟨k - 1, by omega⟩
 unfold attr_Key.f keyB
 by_cases h0 : s.size = 0
 ·
  rw [if_pos (toList_nil.2 h0)]
  simp [attr_Key.j0, h0]
 rw [if_neg (fun h => h0 (toList_nil.1 h))]
 by_cases h64 : (s.size : Int) > 64
 ·
  rw [if_pos h64]
  have : ¬ s.size ≤ 64 := by omega
  simp [attr_Key.j0, this]
 rw [if_neg h64, if_pos (by omega), head_eq _ (bt_range s 0).1 (bt_range s 0).2, Option.bind_some]
 have h1 : decide (1 ≤ s.size) = true := decide_eq_true (by omega)
 have h2 : decide (s.size ≤ 64) = true := decide_eq_true (by omega)
 rw [h1, h2]
 cases hh : headB (bt s 0) with
 | false => simp [attr_Key.j0]
 | true =>
  rw [attr_Key.j0]; rw [if_neg (by simp)]
  obtain ⟨n, hn⟩ : ∃ n, s.size = n + 1 := ⟨s.size - 1, by omega⟩
  rw [attr_Key_l0 s (by omega) (n + 1) 0 (by omega) (by omega) k (by omega), allT, hn]
  have : tailB (bt s 0) = true := by simp [tailB, hh]
  rw [this]
  simp
theorem ref_key_eq (s : ByteArray) (k : Nat) (hk : 66 < k) : belfryref04_Key.f k s = some (keyB s) := by
 obtain ⟨k, rfl⟩ : ∃ j, k = j + 1 := ⟨k - 1, by omega⟩
 unfold belfryref04_Key.f keyB
 by_cases h0 : (s.size : Int) < 1
 ·
  rw [if_pos h0]
  have : s.size = 0 := by omega
  simp [belfryref04_Key.j0, this]
 rw [if_neg h0]; by_cases h64 : (s.size : Int) > 64
 ·
  have : ¬ s.size ≤ 64 := by omega
  simp [belfryref04_Key.j0, this, h64]
 have h1 : decide (1 ≤ s.size) = true := decide_eq_true (by omega)
 have h2 : decide (s.size ≤ 64) = true := decide_eq_true (by omega)
 rw [h1, h2, belfryref04_Key.j0, if_neg (by simp; omega)]
 obtain ⟨n, hn⟩ : ∃ n, s.size = n + 1 := ⟨s.size - 1, by omega⟩
 rw [ref_Key_l0 s (by omega) (n + 1) 0 (by omega) (by omega) k (by omega), allR, allR_allT s n (0 + 1) (by omega), hn]
 cases hh : headB (bt s 0) with
 | false => simp
 | true => simp
end Go.Proofs.YtkedidjjhhjdbaaGreatDoor.Pr
end
section
set_option linter.unusedVariables false
set_option linter.unusedSimpArgs false
namespace Go.Proofs.YtkedidjjhhjdbaaGreatDoor.Pr
open Go.RowKit Go.Proofs.YtkedidjjhhjdbaaGreatDoorW.PrintWords Go.Proofs.YtkedidjjhhjdbaaGreatDoorW.PrintLast Go.Proofs.YtkedidjjhhjdbaaGreatDoorW.PrintMore
def utf8_ValidString.f (a0 : ByteArray) : Option Bool := if a0.size ≤ 9223372036854775807 then some (Lib.validD a0.data.toList) else none
theorem utf8_ValidString.calls (a0 : ByteArray) (r : Bool) (w : World) (h : utf8_ValidString.f a0 = some r)
  (he_ : EnvW w := by repeat (first | with_reducible assumption | with_reducible exact env_of (by with_reducible assumption) (by with_reducible assumption) | with_reducible exact env_out (by with_reducible assumption) | with_reducible apply env_alloc | with_reducible apply env_drewN | with_reducible apply env_drew | with_reducible refine env_set ?_ (by with_reducible assumption) (by with_reducible assumption))) :
  Calls Tryz.prog 118 #[.string a0] w fun e w' => e = .returned (.bool r) ∧ Below w.heap.size w w' := by
 unfold utf8_ValidString.f at h
 by_cases hs : a0.size ≤ 9223372036854775807; rotate_left
 · rw [if_neg hs] at h; cases h
 rw [if_pos hs] at h
 obtain rfl := Option.some.inj h
 exact Any.utf8_ValidString Tryz.lays196 a0 w hs he_.1
end Go.Proofs.YtkedidjjhhjdbaaGreatDoor.Pr
end
